-- Printed by myprint.py (ours) over the kit's printer, out of the translation.
import Derived.Test.YtmdeldiocaofkaaQ0
import Derived.Test.YtmdeldiocaofkaaQ1
import Derived.Test.YtmdeldiocaofkaaQ5
import Derived.Test.YtmdeldiocaofkaaQ6
import Derived.Test.YtmdeldiocaofkaaQF0
namespace Go.Proofs.Ytmdeldiocaofkaa.Q
open Go.RowKit Go.Proofs.YtmdeldiocaofkaaW.PrintWords Go.Proofs.YtmdeldiocaofkaaW.PrintLast Go.Proofs.YtmdeldiocaofkaaW.PrintMore
attribute [local go_sem] ArrW.ptrOf_slice max2_int min2_int max_two min_two max_three min_three max_four min_four   -- for this text's walks alone
set_option linter.unusedVariables false
set_option linter.unusedSimpArgs false

/-! ### foghornlaw18_FieldLaws: function 5 -/
set_option maxHeartbeats 8000000 in
set_option maxRecDepth 100000 in
theorem foghornlaw18_FieldLaws.calls (k : Nat) (a0_0 : Int) (a0_1 : Int) (a0_2 : Int) (a0_3 : Int) (a0_4 : Int) (r : Bool) (w : World) (h : foghornlaw18_FieldLaws.f k a0_0 a0_1 a0_2 a0_3 a0_4 = some r) (hq_ : r = true) :
    Calls Try.prog 5 #[.agg #[.int .u8 a0_0, .int .u8 a0_1, .int .u8 a0_2, .int .i32 a0_3, .int .i32 a0_4]] w fun e w' => e = .returned (.bool r) ∧ Below w.heap.size w w' := by
  have HQ_ := Aside0.mk hq_
  clear hq_
  have hu39 := Try.underlying39
  have HB := Aside0.mk (Below.refl w.heap.size w)
  have H : ((field_Plus.f a0_0 a0_1).bind fun t249 => ((field_Plus.f a0_1 a0_0).bind fun t250 => (if t249 = t250 then ((field_Plus.f a0_0 a0_1).bind fun t251 => ((field_Plus.f t251 a0_2).bind fun t252 => ((field_Plus.f a0_1 a0_2).bind fun t253 => ((field_Plus.f a0_0 t253).bind fun t254 => (if t252 = t254 then ((field_Plus.f a0_0 0).bind fun t255 => (if t255 = a0_0 then ((field_Plus.f a0_0 a0_0).bind fun t256 => (foghornlaw18_FieldLaws.j0 k a0_0 a0_1 a0_2 (t256 != 0) a0_0 a0_1 a0_2 a0_3 a0_4)) else (foghornlaw18_FieldLaws.j0 k a0_0 a0_1 a0_2 true a0_0 a0_1 a0_2 a0_3 a0_4))) else (foghornlaw18_FieldLaws.j0 k a0_0 a0_1 a0_2 true a0_0 a0_1 a0_2 a0_3 a0_4)))))) else (foghornlaw18_FieldLaws.j0 k a0_0 a0_1 a0_2 true a0_0 a0_1 a0_2 a0_3 a0_4)))) = some r := h
  clear h
  have HC2 := Aside0.mk H
  clear H
  go_enter Try.func5, Try.ntmps5
  go_upto_region 4 with (first | ((with_reducible refine gate_dst (N := 1) rfl ?_); refine box_event ?hg (N := 1) ?hd (cs := #[.int .u8 a0_0, .int .u8 a0_1, .int .u8 a0_2, .int .i32 a0_3, .int .i32 a0_4]) (t := 39) ?hr ?_; (case hd => rfl); (case hg => rfl); (case hr => first | (go_simp; done) | (go_simp; rfl)); intro gb248 hg w3 hbox hb; have n0_ := Aside0.mk (below_step (by repeat (first | (with_reducible first | exact HB.out | apply below_alloc | apply pw_below_drewN | apply below_drew1) | exact HB.out)) hb); have n1_ := Aside0.mk (hbox); have n2_ := Aside0.mk ((by rw [hg]; exact (below_size (by repeat (first | (with_reducible first | exact HB.out | apply below_alloc | apply pw_below_drewN | apply below_drew1) | exact HB.out))) : w.heap.size ≤ gb248)); have n3_ := Aside0.mk ((by rw [hg]; exact (below_size (by repeat (first | (with_reducible first | exact HB.out | apply below_alloc | apply pw_below_drewN | apply below_drew1) | exact HB.out))) : w.heap.size ≤ gb248)); clear HB; have HB := n0_; have BK248 := n1_; have GW248 := n2_; have GE248 := n3_; clear n0_ n1_ n2_ n3_; clear hb hbox hg; have hcz4_0 : w3.cell? ⟨gb248, 0, none⟩ = some (.int .u8 a0_0) := (blk_cell BK248.out 0).trans rfl; have hcz4_1 : w3.cell? ⟨gb248, 1, none⟩ = some (.int .u8 a0_1) := (blk_cell BK248.out 1).trans rfl; have hcz4_2 : w3.cell? ⟨gb248, 2, none⟩ = some (.int .u8 a0_2) := (blk_cell BK248.out 2).trans rfl; have hcz4_3 : w3.cell? ⟨gb248, 3, none⟩ = some (.int .i32 a0_3) := (blk_cell BK248.out 3).trans rfl; have hcz4_4 : w3.cell? ⟨gb248, 4, none⟩ = some (.int .i32 a0_4) := (blk_cell BK248.out 4).trans rfl; have hfz4_0 := blk_frozen BK248.out 0; have hfz4_1 := blk_frozen BK248.out 1; have hfz4_2 := blk_frozen BK248.out 2; have hfz4_3 := blk_frozen BK248.out 3; have hfz4_4 := blk_frozen BK248.out 4))
  (try simp only [Act.put, List.setIfInBounds_toArray, List.set_cons_zero, List.set_cons_succ])
  go_cut [57] (fun v57 wc => ∃ (kq : Nat) (x57_1 : Bool), v57 = .bool x57_1 ∧ Aside0 (foghornlaw18_FieldLaws.j0 kq a0_0 a0_1 a0_2 x57_1 a0_0 a0_1 a0_2 a0_3 a0_4 = some r) ∧ Aside0 (kq ≤ k) ∧ Aside0 (wc.heap[gb248]? = some (.cells #[.int .u8 a0_0, .int .u8 a0_1, .int .u8 a0_2, .int .i32 a0_3, .int .i32 a0_4] 39 (0, 0))) ∧ Aside0 (Below w.heap.size w wc))
  case first =>
    have H := HC2.out
    clear HC2
    replace H := Option.bind_eq_some_iff.mp H
    obtain ⟨t249, A50, H⟩ := H
    replace H : ((field_Plus.f a0_1 a0_0).bind fun t250 => (if t249 = t250 then ((field_Plus.f a0_0 a0_1).bind fun t251 => ((field_Plus.f t251 a0_2).bind fun t252 => ((field_Plus.f a0_1 a0_2).bind fun t253 => ((field_Plus.f a0_0 t253).bind fun t254 => (if t252 = t254 then ((field_Plus.f a0_0 0).bind fun t255 => (if t255 = a0_0 then ((field_Plus.f a0_0 a0_0).bind fun t256 => (foghornlaw18_FieldLaws.j0 k a0_0 a0_1 a0_2 (t256 != 0) a0_0 a0_1 a0_2 a0_3 a0_4)) else (foghornlaw18_FieldLaws.j0 k a0_0 a0_1 a0_2 true a0_0 a0_1 a0_2 a0_3 a0_4))) else (foghornlaw18_FieldLaws.j0 k a0_0 a0_1 a0_2 true a0_0 a0_1 a0_2 a0_3 a0_4)))))) else (foghornlaw18_FieldLaws.j0 k a0_0 a0_1 a0_2 true a0_0 a0_1 a0_2 a0_3 a0_4))) = some r := H
    have A5 := Aside0.mk A50
    clear A50
    replace H := Option.bind_eq_some_iff.mp H
    obtain ⟨t250, A60, H⟩ := H
    replace H : (if t249 = t250 then ((field_Plus.f a0_0 a0_1).bind fun t251 => ((field_Plus.f t251 a0_2).bind fun t252 => ((field_Plus.f a0_1 a0_2).bind fun t253 => ((field_Plus.f a0_0 t253).bind fun t254 => (if t252 = t254 then ((field_Plus.f a0_0 0).bind fun t255 => (if t255 = a0_0 then ((field_Plus.f a0_0 a0_0).bind fun t256 => (foghornlaw18_FieldLaws.j0 k a0_0 a0_1 a0_2 (t256 != 0) a0_0 a0_1 a0_2 a0_3 a0_4)) else (foghornlaw18_FieldLaws.j0 k a0_0 a0_1 a0_2 true a0_0 a0_1 a0_2 a0_3 a0_4))) else (foghornlaw18_FieldLaws.j0 k a0_0 a0_1 a0_2 true a0_0 a0_1 a0_2 a0_3 a0_4)))))) else (foghornlaw18_FieldLaws.j0 k a0_0 a0_1 a0_2 true a0_0 a0_1 a0_2 a0_3 a0_4)) = some r := H
    have A6 := Aside0.mk A60
    clear A60
    by_cases c7 : t249 = t250
    · rw [if_pos c7] at H
      have c7b0 : (t249 == t250) = true := beq_iff_eq.mpr c7
      have c7b1 : (t249 != t250) = false := bne_eq_false_iff_eq.mpr c7
      clear c7
      (first | rw [c7b0] | (simp only [i64_w, i32_w]; rw [c7b0]) | skip)
      replace H := Option.bind_eq_some_iff.mp H
      obtain ⟨t251, A80, H⟩ := H
      replace H : ((field_Plus.f t251 a0_2).bind fun t252 => ((field_Plus.f a0_1 a0_2).bind fun t253 => ((field_Plus.f a0_0 t253).bind fun t254 => (if t252 = t254 then ((field_Plus.f a0_0 0).bind fun t255 => (if t255 = a0_0 then ((field_Plus.f a0_0 a0_0).bind fun t256 => (foghornlaw18_FieldLaws.j0 k a0_0 a0_1 a0_2 (t256 != 0) a0_0 a0_1 a0_2 a0_3 a0_4)) else (foghornlaw18_FieldLaws.j0 k a0_0 a0_1 a0_2 true a0_0 a0_1 a0_2 a0_3 a0_4))) else (foghornlaw18_FieldLaws.j0 k a0_0 a0_1 a0_2 true a0_0 a0_1 a0_2 a0_3 a0_4))))) = some r := H
      have A8 := Aside0.mk A80
      clear A80
      obtain rfl := Option.some.inj (A5.out.symm.trans A8.out)
      replace H := Option.bind_eq_some_iff.mp H
      obtain ⟨t252, A90, H⟩ := H
      replace H : ((field_Plus.f a0_1 a0_2).bind fun t253 => ((field_Plus.f a0_0 t253).bind fun t254 => (if t252 = t254 then ((field_Plus.f a0_0 0).bind fun t255 => (if t255 = a0_0 then ((field_Plus.f a0_0 a0_0).bind fun t256 => (foghornlaw18_FieldLaws.j0 k a0_0 a0_1 a0_2 (t256 != 0) a0_0 a0_1 a0_2 a0_3 a0_4)) else (foghornlaw18_FieldLaws.j0 k a0_0 a0_1 a0_2 true a0_0 a0_1 a0_2 a0_3 a0_4))) else (foghornlaw18_FieldLaws.j0 k a0_0 a0_1 a0_2 true a0_0 a0_1 a0_2 a0_3 a0_4)))) = some r := H
      have A9 := Aside0.mk A90
      clear A90
      replace H := Option.bind_eq_some_iff.mp H
      obtain ⟨t253, A100, H⟩ := H
      replace H : ((field_Plus.f a0_0 t253).bind fun t254 => (if t252 = t254 then ((field_Plus.f a0_0 0).bind fun t255 => (if t255 = a0_0 then ((field_Plus.f a0_0 a0_0).bind fun t256 => (foghornlaw18_FieldLaws.j0 k a0_0 a0_1 a0_2 (t256 != 0) a0_0 a0_1 a0_2 a0_3 a0_4)) else (foghornlaw18_FieldLaws.j0 k a0_0 a0_1 a0_2 true a0_0 a0_1 a0_2 a0_3 a0_4))) else (foghornlaw18_FieldLaws.j0 k a0_0 a0_1 a0_2 true a0_0 a0_1 a0_2 a0_3 a0_4))) = some r := H
      have A10 := Aside0.mk A100
      clear A100
      replace H := Option.bind_eq_some_iff.mp H
      obtain ⟨t254, A110, H⟩ := H
      replace H : (if t252 = t254 then ((field_Plus.f a0_0 0).bind fun t255 => (if t255 = a0_0 then ((field_Plus.f a0_0 a0_0).bind fun t256 => (foghornlaw18_FieldLaws.j0 k a0_0 a0_1 a0_2 (t256 != 0) a0_0 a0_1 a0_2 a0_3 a0_4)) else (foghornlaw18_FieldLaws.j0 k a0_0 a0_1 a0_2 true a0_0 a0_1 a0_2 a0_3 a0_4))) else (foghornlaw18_FieldLaws.j0 k a0_0 a0_1 a0_2 true a0_0 a0_1 a0_2 a0_3 a0_4)) = some r := H
      have A11 := Aside0.mk A110
      clear A110
      by_cases c12 : t252 = t254
      · rw [if_pos c12] at H
        have c12b0 : (t252 == t254) = true := beq_iff_eq.mpr c12
        have c12b1 : (t252 != t254) = false := bne_eq_false_iff_eq.mpr c12
        clear c12
        replace H := Option.bind_eq_some_iff.mp H
        obtain ⟨t255, A130, H⟩ := H
        replace H : (if t255 = a0_0 then ((field_Plus.f a0_0 a0_0).bind fun t256 => (foghornlaw18_FieldLaws.j0 k a0_0 a0_1 a0_2 (t256 != 0) a0_0 a0_1 a0_2 a0_3 a0_4)) else (foghornlaw18_FieldLaws.j0 k a0_0 a0_1 a0_2 true a0_0 a0_1 a0_2 a0_3 a0_4)) = some r := H
        have A13 := Aside0.mk A130
        clear A130
        by_cases c14 : t255 = a0_0
        · rw [if_pos c14] at H
          have c14b0 : (t255 == a0_0) = true := beq_iff_eq.mpr c14
          have c14b1 : (t255 != a0_0) = false := bne_eq_false_iff_eq.mpr c14
          clear c14
          replace H := Option.bind_eq_some_iff.mp H
          obtain ⟨t256, A150, H⟩ := H
          replace H : (foghornlaw18_FieldLaws.j0 k a0_0 a0_1 a0_2 (t256 != 0) a0_0 a0_1 a0_2 a0_3 a0_4) = some r := H
          have A15 := Aside0.mk A150
          clear A150
          as_aux_lemma =>
            have H' := Aside0.mk H
            clear H
            go_wp2_with (first | ((with_reducible refine gate_callee (f := 26) rfl ?_); refine goesL_ (some 28) rfl rfl Try.func26 (by kernel_rfl) rfl #[.int .u8 a0_0, .int .u8 a0_1] rfl (by (try simp only [List.map_toArray, List.map_cons, List.map_nil]); first | done | rfl | (simp only [List.length_drop, List.length_take]; rfl)) ?_; (with_reducible refine (field_Plus.calls a0_0 a0_1 t249 _ A5.out).mono ?_); rintro e w' ⟨rfl, ⟨nd, rfl⟩⟩; refine ⟨_, rfl, ?_⟩) | ((with_reducible refine gate_callee (f := 26) rfl ?_); refine goesL_ (some 31) rfl rfl Try.func26 (by kernel_rfl) rfl #[.int .u8 a0_1, .int .u8 a0_0] rfl (by (try simp only [List.map_toArray, List.map_cons, List.map_nil]); first | done | rfl | (simp only [List.length_drop, List.length_take]; rfl)) ?_; (with_reducible refine (field_Plus.calls a0_1 a0_0 t250 _ A6.out).mono ?_); rintro e w' ⟨rfl, ⟨nd, rfl⟩⟩; refine ⟨_, rfl, ?_⟩) | (go_at_call 26; (with_reducible refine (field_Plus.calls a0_0 a0_1 t249 _ A8.out).mono ?_); rintro e w' ⟨rfl, ⟨nd, rfl⟩⟩) | (go_at_call 26; (with_reducible refine (field_Plus.calls t249 a0_2 t252 _ A9.out).mono ?_); rintro e w' ⟨rfl, ⟨nd, rfl⟩⟩) | (go_at_call 26; (with_reducible refine (field_Plus.calls a0_1 a0_2 t253 _ A10.out).mono ?_); rintro e w' ⟨rfl, ⟨nd, rfl⟩⟩) | (go_at_call 26; (with_reducible refine (field_Plus.calls a0_0 t253 t254 _ A11.out).mono ?_); rintro e w' ⟨rfl, ⟨nd, rfl⟩⟩) | (go_at_call 26; (with_reducible refine (field_Plus.calls a0_0 0 t255 _ A13.out).mono ?_); rintro e w' ⟨rfl, ⟨nd, rfl⟩⟩) | (go_at_call 26; (with_reducible refine (field_Plus.calls a0_0 a0_0 t256 _ A15.out).mono ?_); rintro e w' ⟨rfl, ⟨nd, rfl⟩⟩))
            go_meet
            case rel => exact ⟨_, ((t256 != 0)), (by first | rfl | (simp; done) | (simp [*]; done)), H', ⟨by first | omega | exact Nat.le_refl _⟩, ⟨by (with_reducible repeat (first | refine blk_drewN ?_ _ | refine blk_drew ?_ | refine blk_alloc ?_ _)); exact BK248.out⟩, ⟨by repeat (first | (with_reducible first | exact HB.out | apply below_alloc | apply pw_below_drewN | apply below_drew1 | refine below_set ?_ GE248.out) | exact HB.out)⟩⟩
        · rw [if_neg c14] at H
          have c14b0 : (t255 == a0_0) = false := beq_eq_false_iff_ne.mpr c14
          have c14b1 : (t255 != a0_0) = true := bne_iff_ne.mpr c14
          as_aux_lemma =>
            have H' := Aside0.mk H
            clear H
            go_wp2_with (first | ((with_reducible refine gate_callee (f := 26) rfl ?_); refine goesL_ (some 28) rfl rfl Try.func26 (by kernel_rfl) rfl #[.int .u8 a0_0, .int .u8 a0_1] rfl (by (try simp only [List.map_toArray, List.map_cons, List.map_nil]); first | done | rfl | (simp only [List.length_drop, List.length_take]; rfl)) ?_; (with_reducible refine (field_Plus.calls a0_0 a0_1 t249 _ A5.out).mono ?_); rintro e w' ⟨rfl, ⟨nd, rfl⟩⟩; refine ⟨_, rfl, ?_⟩) | ((with_reducible refine gate_callee (f := 26) rfl ?_); refine goesL_ (some 31) rfl rfl Try.func26 (by kernel_rfl) rfl #[.int .u8 a0_1, .int .u8 a0_0] rfl (by (try simp only [List.map_toArray, List.map_cons, List.map_nil]); first | done | rfl | (simp only [List.length_drop, List.length_take]; rfl)) ?_; (with_reducible refine (field_Plus.calls a0_1 a0_0 t250 _ A6.out).mono ?_); rintro e w' ⟨rfl, ⟨nd, rfl⟩⟩; refine ⟨_, rfl, ?_⟩) | (go_at_call 26; (with_reducible refine (field_Plus.calls a0_0 a0_1 t249 _ A8.out).mono ?_); rintro e w' ⟨rfl, ⟨nd, rfl⟩⟩) | (go_at_call 26; (with_reducible refine (field_Plus.calls t249 a0_2 t252 _ A9.out).mono ?_); rintro e w' ⟨rfl, ⟨nd, rfl⟩⟩) | (go_at_call 26; (with_reducible refine (field_Plus.calls a0_1 a0_2 t253 _ A10.out).mono ?_); rintro e w' ⟨rfl, ⟨nd, rfl⟩⟩) | (go_at_call 26; (with_reducible refine (field_Plus.calls a0_0 t253 t254 _ A11.out).mono ?_); rintro e w' ⟨rfl, ⟨nd, rfl⟩⟩) | (go_at_call 26; (with_reducible refine (field_Plus.calls a0_0 0 t255 _ A13.out).mono ?_); rintro e w' ⟨rfl, ⟨nd, rfl⟩⟩))
            go_meet
            case rel => exact ⟨_, (true), (by first | rfl | (simp; done) | (simp [*]; done)), H', ⟨by first | omega | exact Nat.le_refl _⟩, ⟨by (with_reducible repeat (first | refine blk_drewN ?_ _ | refine blk_drew ?_ | refine blk_alloc ?_ _)); exact BK248.out⟩, ⟨by repeat (first | (with_reducible first | exact HB.out | apply below_alloc | apply pw_below_drewN | apply below_drew1 | refine below_set ?_ GE248.out) | exact HB.out)⟩⟩
      · rw [if_neg c12] at H
        have c12b0 : (t252 == t254) = false := beq_eq_false_iff_ne.mpr c12
        have c12b1 : (t252 != t254) = true := bne_iff_ne.mpr c12
        as_aux_lemma =>
          have H' := Aside0.mk H
          clear H
          go_wp2_with (first | ((with_reducible refine gate_callee (f := 26) rfl ?_); refine goesL_ (some 28) rfl rfl Try.func26 (by kernel_rfl) rfl #[.int .u8 a0_0, .int .u8 a0_1] rfl (by (try simp only [List.map_toArray, List.map_cons, List.map_nil]); first | done | rfl | (simp only [List.length_drop, List.length_take]; rfl)) ?_; (with_reducible refine (field_Plus.calls a0_0 a0_1 t249 _ A5.out).mono ?_); rintro e w' ⟨rfl, ⟨nd, rfl⟩⟩; refine ⟨_, rfl, ?_⟩) | ((with_reducible refine gate_callee (f := 26) rfl ?_); refine goesL_ (some 31) rfl rfl Try.func26 (by kernel_rfl) rfl #[.int .u8 a0_1, .int .u8 a0_0] rfl (by (try simp only [List.map_toArray, List.map_cons, List.map_nil]); first | done | rfl | (simp only [List.length_drop, List.length_take]; rfl)) ?_; (with_reducible refine (field_Plus.calls a0_1 a0_0 t250 _ A6.out).mono ?_); rintro e w' ⟨rfl, ⟨nd, rfl⟩⟩; refine ⟨_, rfl, ?_⟩) | (go_at_call 26; (with_reducible refine (field_Plus.calls a0_0 a0_1 t249 _ A8.out).mono ?_); rintro e w' ⟨rfl, ⟨nd, rfl⟩⟩) | (go_at_call 26; (with_reducible refine (field_Plus.calls t249 a0_2 t252 _ A9.out).mono ?_); rintro e w' ⟨rfl, ⟨nd, rfl⟩⟩) | (go_at_call 26; (with_reducible refine (field_Plus.calls a0_1 a0_2 t253 _ A10.out).mono ?_); rintro e w' ⟨rfl, ⟨nd, rfl⟩⟩) | (go_at_call 26; (with_reducible refine (field_Plus.calls a0_0 t253 t254 _ A11.out).mono ?_); rintro e w' ⟨rfl, ⟨nd, rfl⟩⟩))
          go_meet
          case rel => exact ⟨_, (true), (by first | rfl | (simp; done) | (simp [*]; done)), H', ⟨by first | omega | exact Nat.le_refl _⟩, ⟨by (with_reducible repeat (first | refine blk_drewN ?_ _ | refine blk_drew ?_ | refine blk_alloc ?_ _)); exact BK248.out⟩, ⟨by repeat (first | (with_reducible first | exact HB.out | apply below_alloc | apply pw_below_drewN | apply below_drew1 | refine below_set ?_ GE248.out) | exact HB.out)⟩⟩
    · rw [if_neg c7] at H
      have c7b0 : (t249 == t250) = false := beq_eq_false_iff_ne.mpr c7
      have c7b1 : (t249 != t250) = true := bne_iff_ne.mpr c7
      (first | rw [c7b0] | (simp only [i64_w, i32_w]; rw [c7b0]) | skip)
      as_aux_lemma =>
        have H' := Aside0.mk H
        clear H
        go_wp2_with (first | ((with_reducible refine gate_callee (f := 26) rfl ?_); refine goesL_ (some 28) rfl rfl Try.func26 (by kernel_rfl) rfl #[.int .u8 a0_0, .int .u8 a0_1] rfl (by (try simp only [List.map_toArray, List.map_cons, List.map_nil]); first | done | rfl | (simp only [List.length_drop, List.length_take]; rfl)) ?_; (with_reducible refine (field_Plus.calls a0_0 a0_1 t249 _ A5.out).mono ?_); rintro e w' ⟨rfl, ⟨nd, rfl⟩⟩; refine ⟨_, rfl, ?_⟩) | ((with_reducible refine gate_callee (f := 26) rfl ?_); refine goesL_ (some 31) rfl rfl Try.func26 (by kernel_rfl) rfl #[.int .u8 a0_1, .int .u8 a0_0] rfl (by (try simp only [List.map_toArray, List.map_cons, List.map_nil]); first | done | rfl | (simp only [List.length_drop, List.length_take]; rfl)) ?_; (with_reducible refine (field_Plus.calls a0_1 a0_0 t250 _ A6.out).mono ?_); rintro e w' ⟨rfl, ⟨nd, rfl⟩⟩; refine ⟨_, rfl, ?_⟩))
        go_meet
        case rel => exact ⟨_, (true), (by first | rfl | (simp; done) | (simp [*]; done)), H', ⟨by first | omega | exact Nat.le_refl _⟩, ⟨by (with_reducible repeat (first | refine blk_drewN ?_ _ | refine blk_drew ?_ | refine blk_alloc ?_ _)); exact BK248.out⟩, ⟨by repeat (first | (with_reducible first | exact HB.out | apply below_alloc | apply pw_below_drewN | apply below_drew1 | refine below_set ?_ GE248.out) | exact HB.out)⟩⟩
  case rest =>
    clear HC2
    try clear c1
    try clear c2
    try clear p2
    try clear c5
    try clear c7
    try clear c7b0
    try clear c7b1
    try clear c12
    try clear c12b0
    try clear c12b1
    try clear c14
    try clear c14b0
    try clear c14b1
    try clear hcz4_0
    try clear hcz4_1
    try clear hcz4_2
    try clear hcz4_3
    try clear hcz4_4
    try clear hfz4_0
    try clear hfz4_1
    try clear hfz4_2
    try clear hfz4_3
    try clear hfz4_4
    obtain ⟨kq, x57_1, rfl, HA, HJ1, BK248, HB⟩ := hcut
    cases kq with
    | zero => exact absurd HA.out (by simp [foghornlaw18_FieldLaws.j0])
    | succ kj1 =>
      have H := HA.out
      clear HA
      simp only [foghornlaw18_FieldLaws.j0] at H
      by_cases c16 : x57_1 = true
      · subst c16
        have H1 : (some false) = some r := by rw [if_pos rfl] at H; exact H
        clear H
        have H := H1
        clear H1
        as_aux_lemma =>
          exact absurd ((Option.some.inj H).trans HQ_.out) (by decide)
      · replace c16 := Bool.eq_false_iff.mpr c16
        subst c16
        have H1 : ((field_Times.f kj1 a0_0 a0_1).bind fun t257 => ((field_Times.f kj1 a0_1 a0_0).bind fun t258 => (if t257 = t258 then ((field_Times.f kj1 a0_0 a0_1).bind fun t259 => ((field_Times.f kj1 t259 a0_2).bind fun t260 => ((field_Times.f kj1 a0_1 a0_2).bind fun t261 => ((field_Times.f kj1 a0_0 t261).bind fun t262 => (if t260 = t262 then ((field_Times.f kj1 a0_0 1).bind fun t263 => (if t263 = a0_0 then ((field_Times.f kj1 a0_0 0).bind fun t264 => (if t264 = 0 then ((field_Plus.f a0_1 a0_2).bind fun t265 => ((field_Times.f kj1 a0_0 t265).bind fun t266 => ((field_Times.f kj1 a0_0 a0_1).bind fun t267 => ((field_Times.f kj1 a0_0 a0_2).bind fun t268 => ((field_Plus.f t267 t268).bind fun t269 => (foghornlaw18_FieldLaws.j1 kj1 a0_0 a0_1 (t266 != t269) a0_0 a0_1 a0_2 a0_3 a0_4)))))) else (foghornlaw18_FieldLaws.j1 kj1 a0_0 a0_1 true a0_0 a0_1 a0_2 a0_3 a0_4))) else (foghornlaw18_FieldLaws.j1 kj1 a0_0 a0_1 true a0_0 a0_1 a0_2 a0_3 a0_4))) else (foghornlaw18_FieldLaws.j1 kj1 a0_0 a0_1 true a0_0 a0_1 a0_2 a0_3 a0_4)))))) else (foghornlaw18_FieldLaws.j1 kj1 a0_0 a0_1 true a0_0 a0_1 a0_2 a0_3 a0_4)))) = some r := by rw [if_neg (show ¬ (false = true) by decide)] at H; exact H
        clear H
        have H := H1
        clear H1
        have HC17 := Aside0.mk H
        clear H
        go_upto_region 6 with (fail)
        go_cut [103] (fun v103 wc => ∃ (kq : Nat) (x103_16 : Bool), v103 = .bool x103_16 ∧ Aside0 (foghornlaw18_FieldLaws.j1 kq a0_0 a0_1 x103_16 a0_0 a0_1 a0_2 a0_3 a0_4 = some r) ∧ Aside0 (kq ≤ kj1) ∧ Aside0 (wc.heap[gb248]? = some (.cells #[.int .u8 a0_0, .int .u8 a0_1, .int .u8 a0_2, .int .i32 a0_3, .int .i32 a0_4] 39 (0, 0))) ∧ Aside0 (Below w.heap.size w wc))
        case first =>
          have H := HC17.out
          clear HC17
          replace H := Option.bind_eq_some_iff.mp H
          obtain ⟨t257, A180, H⟩ := H
          replace H : ((field_Times.f kj1 a0_1 a0_0).bind fun t258 => (if t257 = t258 then ((field_Times.f kj1 a0_0 a0_1).bind fun t259 => ((field_Times.f kj1 t259 a0_2).bind fun t260 => ((field_Times.f kj1 a0_1 a0_2).bind fun t261 => ((field_Times.f kj1 a0_0 t261).bind fun t262 => (if t260 = t262 then ((field_Times.f kj1 a0_0 1).bind fun t263 => (if t263 = a0_0 then ((field_Times.f kj1 a0_0 0).bind fun t264 => (if t264 = 0 then ((field_Plus.f a0_1 a0_2).bind fun t265 => ((field_Times.f kj1 a0_0 t265).bind fun t266 => ((field_Times.f kj1 a0_0 a0_1).bind fun t267 => ((field_Times.f kj1 a0_0 a0_2).bind fun t268 => ((field_Plus.f t267 t268).bind fun t269 => (foghornlaw18_FieldLaws.j1 kj1 a0_0 a0_1 (t266 != t269) a0_0 a0_1 a0_2 a0_3 a0_4)))))) else (foghornlaw18_FieldLaws.j1 kj1 a0_0 a0_1 true a0_0 a0_1 a0_2 a0_3 a0_4))) else (foghornlaw18_FieldLaws.j1 kj1 a0_0 a0_1 true a0_0 a0_1 a0_2 a0_3 a0_4))) else (foghornlaw18_FieldLaws.j1 kj1 a0_0 a0_1 true a0_0 a0_1 a0_2 a0_3 a0_4)))))) else (foghornlaw18_FieldLaws.j1 kj1 a0_0 a0_1 true a0_0 a0_1 a0_2 a0_3 a0_4))) = some r := H
          have A18 := Aside0.mk A180
          clear A180
          replace H := Option.bind_eq_some_iff.mp H
          obtain ⟨t258, A190, H⟩ := H
          replace H : (if t257 = t258 then ((field_Times.f kj1 a0_0 a0_1).bind fun t259 => ((field_Times.f kj1 t259 a0_2).bind fun t260 => ((field_Times.f kj1 a0_1 a0_2).bind fun t261 => ((field_Times.f kj1 a0_0 t261).bind fun t262 => (if t260 = t262 then ((field_Times.f kj1 a0_0 1).bind fun t263 => (if t263 = a0_0 then ((field_Times.f kj1 a0_0 0).bind fun t264 => (if t264 = 0 then ((field_Plus.f a0_1 a0_2).bind fun t265 => ((field_Times.f kj1 a0_0 t265).bind fun t266 => ((field_Times.f kj1 a0_0 a0_1).bind fun t267 => ((field_Times.f kj1 a0_0 a0_2).bind fun t268 => ((field_Plus.f t267 t268).bind fun t269 => (foghornlaw18_FieldLaws.j1 kj1 a0_0 a0_1 (t266 != t269) a0_0 a0_1 a0_2 a0_3 a0_4)))))) else (foghornlaw18_FieldLaws.j1 kj1 a0_0 a0_1 true a0_0 a0_1 a0_2 a0_3 a0_4))) else (foghornlaw18_FieldLaws.j1 kj1 a0_0 a0_1 true a0_0 a0_1 a0_2 a0_3 a0_4))) else (foghornlaw18_FieldLaws.j1 kj1 a0_0 a0_1 true a0_0 a0_1 a0_2 a0_3 a0_4)))))) else (foghornlaw18_FieldLaws.j1 kj1 a0_0 a0_1 true a0_0 a0_1 a0_2 a0_3 a0_4)) = some r := H
          have A19 := Aside0.mk A190
          clear A190
          by_cases c20 : t257 = t258
          · rw [if_pos c20] at H
            have c20b0 : (t257 == t258) = true := beq_iff_eq.mpr c20
            have c20b1 : (t257 != t258) = false := bne_eq_false_iff_eq.mpr c20
            clear c20
            (first | rw [c20b0] | (simp only [i64_w, i32_w]; rw [c20b0]) | skip)
            replace H := Option.bind_eq_some_iff.mp H
            obtain ⟨t259, A210, H⟩ := H
            replace H : ((field_Times.f kj1 t259 a0_2).bind fun t260 => ((field_Times.f kj1 a0_1 a0_2).bind fun t261 => ((field_Times.f kj1 a0_0 t261).bind fun t262 => (if t260 = t262 then ((field_Times.f kj1 a0_0 1).bind fun t263 => (if t263 = a0_0 then ((field_Times.f kj1 a0_0 0).bind fun t264 => (if t264 = 0 then ((field_Plus.f a0_1 a0_2).bind fun t265 => ((field_Times.f kj1 a0_0 t265).bind fun t266 => ((field_Times.f kj1 a0_0 a0_1).bind fun t267 => ((field_Times.f kj1 a0_0 a0_2).bind fun t268 => ((field_Plus.f t267 t268).bind fun t269 => (foghornlaw18_FieldLaws.j1 kj1 a0_0 a0_1 (t266 != t269) a0_0 a0_1 a0_2 a0_3 a0_4)))))) else (foghornlaw18_FieldLaws.j1 kj1 a0_0 a0_1 true a0_0 a0_1 a0_2 a0_3 a0_4))) else (foghornlaw18_FieldLaws.j1 kj1 a0_0 a0_1 true a0_0 a0_1 a0_2 a0_3 a0_4))) else (foghornlaw18_FieldLaws.j1 kj1 a0_0 a0_1 true a0_0 a0_1 a0_2 a0_3 a0_4))))) = some r := H
            have A21 := Aside0.mk A210
            clear A210
            obtain rfl := Option.some.inj (A18.out.symm.trans A21.out)
            replace H := Option.bind_eq_some_iff.mp H
            obtain ⟨t260, A220, H⟩ := H
            replace H : ((field_Times.f kj1 a0_1 a0_2).bind fun t261 => ((field_Times.f kj1 a0_0 t261).bind fun t262 => (if t260 = t262 then ((field_Times.f kj1 a0_0 1).bind fun t263 => (if t263 = a0_0 then ((field_Times.f kj1 a0_0 0).bind fun t264 => (if t264 = 0 then ((field_Plus.f a0_1 a0_2).bind fun t265 => ((field_Times.f kj1 a0_0 t265).bind fun t266 => ((field_Times.f kj1 a0_0 a0_1).bind fun t267 => ((field_Times.f kj1 a0_0 a0_2).bind fun t268 => ((field_Plus.f t267 t268).bind fun t269 => (foghornlaw18_FieldLaws.j1 kj1 a0_0 a0_1 (t266 != t269) a0_0 a0_1 a0_2 a0_3 a0_4)))))) else (foghornlaw18_FieldLaws.j1 kj1 a0_0 a0_1 true a0_0 a0_1 a0_2 a0_3 a0_4))) else (foghornlaw18_FieldLaws.j1 kj1 a0_0 a0_1 true a0_0 a0_1 a0_2 a0_3 a0_4))) else (foghornlaw18_FieldLaws.j1 kj1 a0_0 a0_1 true a0_0 a0_1 a0_2 a0_3 a0_4)))) = some r := H
            have A22 := Aside0.mk A220
            clear A220
            replace H := Option.bind_eq_some_iff.mp H
            obtain ⟨t261, A230, H⟩ := H
            replace H : ((field_Times.f kj1 a0_0 t261).bind fun t262 => (if t260 = t262 then ((field_Times.f kj1 a0_0 1).bind fun t263 => (if t263 = a0_0 then ((field_Times.f kj1 a0_0 0).bind fun t264 => (if t264 = 0 then ((field_Plus.f a0_1 a0_2).bind fun t265 => ((field_Times.f kj1 a0_0 t265).bind fun t266 => ((field_Times.f kj1 a0_0 a0_1).bind fun t267 => ((field_Times.f kj1 a0_0 a0_2).bind fun t268 => ((field_Plus.f t267 t268).bind fun t269 => (foghornlaw18_FieldLaws.j1 kj1 a0_0 a0_1 (t266 != t269) a0_0 a0_1 a0_2 a0_3 a0_4)))))) else (foghornlaw18_FieldLaws.j1 kj1 a0_0 a0_1 true a0_0 a0_1 a0_2 a0_3 a0_4))) else (foghornlaw18_FieldLaws.j1 kj1 a0_0 a0_1 true a0_0 a0_1 a0_2 a0_3 a0_4))) else (foghornlaw18_FieldLaws.j1 kj1 a0_0 a0_1 true a0_0 a0_1 a0_2 a0_3 a0_4))) = some r := H
            have A23 := Aside0.mk A230
            clear A230
            replace H := Option.bind_eq_some_iff.mp H
            obtain ⟨t262, A240, H⟩ := H
            replace H : (if t260 = t262 then ((field_Times.f kj1 a0_0 1).bind fun t263 => (if t263 = a0_0 then ((field_Times.f kj1 a0_0 0).bind fun t264 => (if t264 = 0 then ((field_Plus.f a0_1 a0_2).bind fun t265 => ((field_Times.f kj1 a0_0 t265).bind fun t266 => ((field_Times.f kj1 a0_0 a0_1).bind fun t267 => ((field_Times.f kj1 a0_0 a0_2).bind fun t268 => ((field_Plus.f t267 t268).bind fun t269 => (foghornlaw18_FieldLaws.j1 kj1 a0_0 a0_1 (t266 != t269) a0_0 a0_1 a0_2 a0_3 a0_4)))))) else (foghornlaw18_FieldLaws.j1 kj1 a0_0 a0_1 true a0_0 a0_1 a0_2 a0_3 a0_4))) else (foghornlaw18_FieldLaws.j1 kj1 a0_0 a0_1 true a0_0 a0_1 a0_2 a0_3 a0_4))) else (foghornlaw18_FieldLaws.j1 kj1 a0_0 a0_1 true a0_0 a0_1 a0_2 a0_3 a0_4)) = some r := H
            have A24 := Aside0.mk A240
            clear A240
            by_cases c25 : t260 = t262
            · rw [if_pos c25] at H
              have c25b0 : (t260 == t262) = true := beq_iff_eq.mpr c25
              have c25b1 : (t260 != t262) = false := bne_eq_false_iff_eq.mpr c25
              clear c25
              replace H := Option.bind_eq_some_iff.mp H
              obtain ⟨t263, A260, H⟩ := H
              replace H : (if t263 = a0_0 then ((field_Times.f kj1 a0_0 0).bind fun t264 => (if t264 = 0 then ((field_Plus.f a0_1 a0_2).bind fun t265 => ((field_Times.f kj1 a0_0 t265).bind fun t266 => ((field_Times.f kj1 a0_0 a0_1).bind fun t267 => ((field_Times.f kj1 a0_0 a0_2).bind fun t268 => ((field_Plus.f t267 t268).bind fun t269 => (foghornlaw18_FieldLaws.j1 kj1 a0_0 a0_1 (t266 != t269) a0_0 a0_1 a0_2 a0_3 a0_4)))))) else (foghornlaw18_FieldLaws.j1 kj1 a0_0 a0_1 true a0_0 a0_1 a0_2 a0_3 a0_4))) else (foghornlaw18_FieldLaws.j1 kj1 a0_0 a0_1 true a0_0 a0_1 a0_2 a0_3 a0_4)) = some r := H
              have A26 := Aside0.mk A260
              clear A260
              by_cases c27 : t263 = a0_0
              · rw [if_pos c27] at H
                have c27b0 : (t263 == a0_0) = true := beq_iff_eq.mpr c27
                have c27b1 : (t263 != a0_0) = false := bne_eq_false_iff_eq.mpr c27
                clear c27
                replace H := Option.bind_eq_some_iff.mp H
                obtain ⟨t264, A280, H⟩ := H
                replace H : (if t264 = 0 then ((field_Plus.f a0_1 a0_2).bind fun t265 => ((field_Times.f kj1 a0_0 t265).bind fun t266 => ((field_Times.f kj1 a0_0 a0_1).bind fun t267 => ((field_Times.f kj1 a0_0 a0_2).bind fun t268 => ((field_Plus.f t267 t268).bind fun t269 => (foghornlaw18_FieldLaws.j1 kj1 a0_0 a0_1 (t266 != t269) a0_0 a0_1 a0_2 a0_3 a0_4)))))) else (foghornlaw18_FieldLaws.j1 kj1 a0_0 a0_1 true a0_0 a0_1 a0_2 a0_3 a0_4)) = some r := H
                have A28 := Aside0.mk A280
                clear A280
                by_cases c29 : t264 = 0
                · rw [if_pos c29] at H
                  have c29b0 : (t264 == 0) = true := beq_iff_eq.mpr c29
                  have c29b1 : (t264 != 0) = false := bne_eq_false_iff_eq.mpr c29
                  clear c29
                  replace H := Option.bind_eq_some_iff.mp H
                  obtain ⟨t265, A300, H⟩ := H
                  replace H : ((field_Times.f kj1 a0_0 t265).bind fun t266 => ((field_Times.f kj1 a0_0 a0_1).bind fun t267 => ((field_Times.f kj1 a0_0 a0_2).bind fun t268 => ((field_Plus.f t267 t268).bind fun t269 => (foghornlaw18_FieldLaws.j1 kj1 a0_0 a0_1 (t266 != t269) a0_0 a0_1 a0_2 a0_3 a0_4))))) = some r := H
                  have A30 := Aside0.mk A300
                  clear A300
                  replace H := Option.bind_eq_some_iff.mp H
                  obtain ⟨t266, A310, H⟩ := H
                  replace H : ((field_Times.f kj1 a0_0 a0_1).bind fun t267 => ((field_Times.f kj1 a0_0 a0_2).bind fun t268 => ((field_Plus.f t267 t268).bind fun t269 => (foghornlaw18_FieldLaws.j1 kj1 a0_0 a0_1 (t266 != t269) a0_0 a0_1 a0_2 a0_3 a0_4)))) = some r := H
                  have A31 := Aside0.mk A310
                  clear A310
                  replace H := Option.bind_eq_some_iff.mp H
                  obtain ⟨t267, A320, H⟩ := H
                  replace H : ((field_Times.f kj1 a0_0 a0_2).bind fun t268 => ((field_Plus.f t267 t268).bind fun t269 => (foghornlaw18_FieldLaws.j1 kj1 a0_0 a0_1 (t266 != t269) a0_0 a0_1 a0_2 a0_3 a0_4))) = some r := H
                  have A32 := Aside0.mk A320
                  clear A320
                  obtain rfl := Option.some.inj (A18.out.symm.trans A32.out)
                  replace H := Option.bind_eq_some_iff.mp H
                  obtain ⟨t268, A330, H⟩ := H
                  replace H : ((field_Plus.f t257 t268).bind fun t269 => (foghornlaw18_FieldLaws.j1 kj1 a0_0 a0_1 (t266 != t269) a0_0 a0_1 a0_2 a0_3 a0_4)) = some r := H
                  have A33 := Aside0.mk A330
                  clear A330
                  replace H := Option.bind_eq_some_iff.mp H
                  obtain ⟨t269, A340, H⟩ := H
                  replace H : (foghornlaw18_FieldLaws.j1 kj1 a0_0 a0_1 (t266 != t269) a0_0 a0_1 a0_2 a0_3 a0_4) = some r := H
                  have A34 := Aside0.mk A340
                  clear A340
                  as_aux_lemma =>
                    have H' := Aside0.mk H
                    clear H
                    go_wp2_with (first | ((with_reducible refine gate_callee (f := 28) rfl ?_); refine goesL_ (some 60) rfl rfl Try.func28 (by kernel_rfl) rfl #[.int .u8 a0_0, .int .u8 a0_1] rfl (by (try simp only [List.map_toArray, List.map_cons, List.map_nil]); first | done | rfl | (simp only [List.length_drop, List.length_take]; rfl)) ?_; (with_reducible refine (field_Times.calls kj1 a0_0 a0_1 t257 _ A18.out).mono ?_); rintro e w' ⟨rfl, ⟨nd, rfl⟩⟩; refine ⟨_, rfl, ?_⟩) | ((with_reducible refine gate_callee (f := 28) rfl ?_); refine goesL_ (some 63) rfl rfl Try.func28 (by kernel_rfl) rfl #[.int .u8 a0_1, .int .u8 a0_0] rfl (by (try simp only [List.map_toArray, List.map_cons, List.map_nil]); first | done | rfl | (simp only [List.length_drop, List.length_take]; rfl)) ?_; (with_reducible refine (field_Times.calls kj1 a0_1 a0_0 t258 _ A19.out).mono ?_); rintro e w' ⟨rfl, ⟨nd, rfl⟩⟩; refine ⟨_, rfl, ?_⟩) | (go_at_call 28; (with_reducible refine (field_Times.calls kj1 a0_0 a0_1 t257 _ A21.out).mono ?_); rintro e w' ⟨rfl, ⟨nd, rfl⟩⟩) | (go_at_call 28; (with_reducible refine (field_Times.calls kj1 t257 a0_2 t260 _ A22.out).mono ?_); rintro e w' ⟨rfl, ⟨nd, rfl⟩⟩) | (go_at_call 28; (with_reducible refine (field_Times.calls kj1 a0_1 a0_2 t261 _ A23.out).mono ?_); rintro e w' ⟨rfl, ⟨nd, rfl⟩⟩) | (go_at_call 28; (with_reducible refine (field_Times.calls kj1 a0_0 t261 t262 _ A24.out).mono ?_); rintro e w' ⟨rfl, ⟨nd, rfl⟩⟩) | (go_at_call 28; (with_reducible refine (field_Times.calls kj1 a0_0 1 t263 _ A26.out).mono ?_); rintro e w' ⟨rfl, ⟨nd, rfl⟩⟩) | (go_at_call 28; (with_reducible refine (field_Times.calls kj1 a0_0 0 t264 _ A28.out).mono ?_); rintro e w' ⟨rfl, ⟨nd, rfl⟩⟩) | (go_at_call 26; (with_reducible refine (field_Plus.calls a0_1 a0_2 t265 _ A30.out).mono ?_); rintro e w' ⟨rfl, ⟨nd, rfl⟩⟩) | (go_at_call 28; (with_reducible refine (field_Times.calls kj1 a0_0 t265 t266 _ A31.out).mono ?_); rintro e w' ⟨rfl, ⟨nd, rfl⟩⟩) | (go_at_call 28; (with_reducible refine (field_Times.calls kj1 a0_0 a0_1 t257 _ A32.out).mono ?_); rintro e w' ⟨rfl, ⟨nd, rfl⟩⟩) | (go_at_call 28; (with_reducible refine (field_Times.calls kj1 a0_0 a0_2 t268 _ A33.out).mono ?_); rintro e w' ⟨rfl, ⟨nd, rfl⟩⟩) | (go_at_call 26; (with_reducible refine (field_Plus.calls t257 t268 t269 _ A34.out).mono ?_); rintro e w' ⟨rfl, ⟨nd, rfl⟩⟩))
                    go_meet
                    case rel => exact ⟨_, ((t266 != t269)), (by first | rfl | (simp; done) | (simp [*]; done)), H', ⟨by have := HJ1.out; first | omega | exact Nat.le_refl _⟩, ⟨by (with_reducible repeat (first | refine blk_drewN ?_ _ | refine blk_drew ?_ | refine blk_alloc ?_ _)); exact BK248.out⟩, ⟨by repeat (first | (with_reducible first | exact HB.out | apply below_alloc | apply pw_below_drewN | apply below_drew1 | refine below_set ?_ GE248.out) | exact HB.out)⟩⟩
                · rw [if_neg c29] at H
                  have c29b0 : (t264 == 0) = false := beq_eq_false_iff_ne.mpr c29
                  have c29b1 : (t264 != 0) = true := bne_iff_ne.mpr c29
                  as_aux_lemma =>
                    have H' := Aside0.mk H
                    clear H
                    go_wp2_with (first | ((with_reducible refine gate_callee (f := 28) rfl ?_); refine goesL_ (some 60) rfl rfl Try.func28 (by kernel_rfl) rfl #[.int .u8 a0_0, .int .u8 a0_1] rfl (by (try simp only [List.map_toArray, List.map_cons, List.map_nil]); first | done | rfl | (simp only [List.length_drop, List.length_take]; rfl)) ?_; (with_reducible refine (field_Times.calls kj1 a0_0 a0_1 t257 _ A18.out).mono ?_); rintro e w' ⟨rfl, ⟨nd, rfl⟩⟩; refine ⟨_, rfl, ?_⟩) | ((with_reducible refine gate_callee (f := 28) rfl ?_); refine goesL_ (some 63) rfl rfl Try.func28 (by kernel_rfl) rfl #[.int .u8 a0_1, .int .u8 a0_0] rfl (by (try simp only [List.map_toArray, List.map_cons, List.map_nil]); first | done | rfl | (simp only [List.length_drop, List.length_take]; rfl)) ?_; (with_reducible refine (field_Times.calls kj1 a0_1 a0_0 t258 _ A19.out).mono ?_); rintro e w' ⟨rfl, ⟨nd, rfl⟩⟩; refine ⟨_, rfl, ?_⟩) | (go_at_call 28; (with_reducible refine (field_Times.calls kj1 a0_0 a0_1 t257 _ A21.out).mono ?_); rintro e w' ⟨rfl, ⟨nd, rfl⟩⟩) | (go_at_call 28; (with_reducible refine (field_Times.calls kj1 t257 a0_2 t260 _ A22.out).mono ?_); rintro e w' ⟨rfl, ⟨nd, rfl⟩⟩) | (go_at_call 28; (with_reducible refine (field_Times.calls kj1 a0_1 a0_2 t261 _ A23.out).mono ?_); rintro e w' ⟨rfl, ⟨nd, rfl⟩⟩) | (go_at_call 28; (with_reducible refine (field_Times.calls kj1 a0_0 t261 t262 _ A24.out).mono ?_); rintro e w' ⟨rfl, ⟨nd, rfl⟩⟩) | (go_at_call 28; (with_reducible refine (field_Times.calls kj1 a0_0 1 t263 _ A26.out).mono ?_); rintro e w' ⟨rfl, ⟨nd, rfl⟩⟩) | (go_at_call 28; (with_reducible refine (field_Times.calls kj1 a0_0 0 t264 _ A28.out).mono ?_); rintro e w' ⟨rfl, ⟨nd, rfl⟩⟩))
                    go_meet
                    case rel => exact ⟨_, (true), (by first | rfl | (simp; done) | (simp [*]; done)), H', ⟨by have := HJ1.out; first | omega | exact Nat.le_refl _⟩, ⟨by (with_reducible repeat (first | refine blk_drewN ?_ _ | refine blk_drew ?_ | refine blk_alloc ?_ _)); exact BK248.out⟩, ⟨by repeat (first | (with_reducible first | exact HB.out | apply below_alloc | apply pw_below_drewN | apply below_drew1 | refine below_set ?_ GE248.out) | exact HB.out)⟩⟩
              · rw [if_neg c27] at H
                have c27b0 : (t263 == a0_0) = false := beq_eq_false_iff_ne.mpr c27
                have c27b1 : (t263 != a0_0) = true := bne_iff_ne.mpr c27
                as_aux_lemma =>
                  have H' := Aside0.mk H
                  clear H
                  go_wp2_with (first | ((with_reducible refine gate_callee (f := 28) rfl ?_); refine goesL_ (some 60) rfl rfl Try.func28 (by kernel_rfl) rfl #[.int .u8 a0_0, .int .u8 a0_1] rfl (by (try simp only [List.map_toArray, List.map_cons, List.map_nil]); first | done | rfl | (simp only [List.length_drop, List.length_take]; rfl)) ?_; (with_reducible refine (field_Times.calls kj1 a0_0 a0_1 t257 _ A18.out).mono ?_); rintro e w' ⟨rfl, ⟨nd, rfl⟩⟩; refine ⟨_, rfl, ?_⟩) | ((with_reducible refine gate_callee (f := 28) rfl ?_); refine goesL_ (some 63) rfl rfl Try.func28 (by kernel_rfl) rfl #[.int .u8 a0_1, .int .u8 a0_0] rfl (by (try simp only [List.map_toArray, List.map_cons, List.map_nil]); first | done | rfl | (simp only [List.length_drop, List.length_take]; rfl)) ?_; (with_reducible refine (field_Times.calls kj1 a0_1 a0_0 t258 _ A19.out).mono ?_); rintro e w' ⟨rfl, ⟨nd, rfl⟩⟩; refine ⟨_, rfl, ?_⟩) | (go_at_call 28; (with_reducible refine (field_Times.calls kj1 a0_0 a0_1 t257 _ A21.out).mono ?_); rintro e w' ⟨rfl, ⟨nd, rfl⟩⟩) | (go_at_call 28; (with_reducible refine (field_Times.calls kj1 t257 a0_2 t260 _ A22.out).mono ?_); rintro e w' ⟨rfl, ⟨nd, rfl⟩⟩) | (go_at_call 28; (with_reducible refine (field_Times.calls kj1 a0_1 a0_2 t261 _ A23.out).mono ?_); rintro e w' ⟨rfl, ⟨nd, rfl⟩⟩) | (go_at_call 28; (with_reducible refine (field_Times.calls kj1 a0_0 t261 t262 _ A24.out).mono ?_); rintro e w' ⟨rfl, ⟨nd, rfl⟩⟩) | (go_at_call 28; (with_reducible refine (field_Times.calls kj1 a0_0 1 t263 _ A26.out).mono ?_); rintro e w' ⟨rfl, ⟨nd, rfl⟩⟩))
                  go_meet
                  case rel => exact ⟨_, (true), (by first | rfl | (simp; done) | (simp [*]; done)), H', ⟨by have := HJ1.out; first | omega | exact Nat.le_refl _⟩, ⟨by (with_reducible repeat (first | refine blk_drewN ?_ _ | refine blk_drew ?_ | refine blk_alloc ?_ _)); exact BK248.out⟩, ⟨by repeat (first | (with_reducible first | exact HB.out | apply below_alloc | apply pw_below_drewN | apply below_drew1 | refine below_set ?_ GE248.out) | exact HB.out)⟩⟩
            · rw [if_neg c25] at H
              have c25b0 : (t260 == t262) = false := beq_eq_false_iff_ne.mpr c25
              have c25b1 : (t260 != t262) = true := bne_iff_ne.mpr c25
              as_aux_lemma =>
                have H' := Aside0.mk H
                clear H
                go_wp2_with (first | ((with_reducible refine gate_callee (f := 28) rfl ?_); refine goesL_ (some 60) rfl rfl Try.func28 (by kernel_rfl) rfl #[.int .u8 a0_0, .int .u8 a0_1] rfl (by (try simp only [List.map_toArray, List.map_cons, List.map_nil]); first | done | rfl | (simp only [List.length_drop, List.length_take]; rfl)) ?_; (with_reducible refine (field_Times.calls kj1 a0_0 a0_1 t257 _ A18.out).mono ?_); rintro e w' ⟨rfl, ⟨nd, rfl⟩⟩; refine ⟨_, rfl, ?_⟩) | ((with_reducible refine gate_callee (f := 28) rfl ?_); refine goesL_ (some 63) rfl rfl Try.func28 (by kernel_rfl) rfl #[.int .u8 a0_1, .int .u8 a0_0] rfl (by (try simp only [List.map_toArray, List.map_cons, List.map_nil]); first | done | rfl | (simp only [List.length_drop, List.length_take]; rfl)) ?_; (with_reducible refine (field_Times.calls kj1 a0_1 a0_0 t258 _ A19.out).mono ?_); rintro e w' ⟨rfl, ⟨nd, rfl⟩⟩; refine ⟨_, rfl, ?_⟩) | (go_at_call 28; (with_reducible refine (field_Times.calls kj1 a0_0 a0_1 t257 _ A21.out).mono ?_); rintro e w' ⟨rfl, ⟨nd, rfl⟩⟩) | (go_at_call 28; (with_reducible refine (field_Times.calls kj1 t257 a0_2 t260 _ A22.out).mono ?_); rintro e w' ⟨rfl, ⟨nd, rfl⟩⟩) | (go_at_call 28; (with_reducible refine (field_Times.calls kj1 a0_1 a0_2 t261 _ A23.out).mono ?_); rintro e w' ⟨rfl, ⟨nd, rfl⟩⟩) | (go_at_call 28; (with_reducible refine (field_Times.calls kj1 a0_0 t261 t262 _ A24.out).mono ?_); rintro e w' ⟨rfl, ⟨nd, rfl⟩⟩))
                go_meet
                case rel => exact ⟨_, (true), (by first | rfl | (simp; done) | (simp [*]; done)), H', ⟨by have := HJ1.out; first | omega | exact Nat.le_refl _⟩, ⟨by (with_reducible repeat (first | refine blk_drewN ?_ _ | refine blk_drew ?_ | refine blk_alloc ?_ _)); exact BK248.out⟩, ⟨by repeat (first | (with_reducible first | exact HB.out | apply below_alloc | apply pw_below_drewN | apply below_drew1 | refine below_set ?_ GE248.out) | exact HB.out)⟩⟩
          · rw [if_neg c20] at H
            have c20b0 : (t257 == t258) = false := beq_eq_false_iff_ne.mpr c20
            have c20b1 : (t257 != t258) = true := bne_iff_ne.mpr c20
            (first | rw [c20b0] | (simp only [i64_w, i32_w]; rw [c20b0]) | skip)
            as_aux_lemma =>
              have H' := Aside0.mk H
              clear H
              go_wp2_with (first | ((with_reducible refine gate_callee (f := 28) rfl ?_); refine goesL_ (some 60) rfl rfl Try.func28 (by kernel_rfl) rfl #[.int .u8 a0_0, .int .u8 a0_1] rfl (by (try simp only [List.map_toArray, List.map_cons, List.map_nil]); first | done | rfl | (simp only [List.length_drop, List.length_take]; rfl)) ?_; (with_reducible refine (field_Times.calls kj1 a0_0 a0_1 t257 _ A18.out).mono ?_); rintro e w' ⟨rfl, ⟨nd, rfl⟩⟩; refine ⟨_, rfl, ?_⟩) | ((with_reducible refine gate_callee (f := 28) rfl ?_); refine goesL_ (some 63) rfl rfl Try.func28 (by kernel_rfl) rfl #[.int .u8 a0_1, .int .u8 a0_0] rfl (by (try simp only [List.map_toArray, List.map_cons, List.map_nil]); first | done | rfl | (simp only [List.length_drop, List.length_take]; rfl)) ?_; (with_reducible refine (field_Times.calls kj1 a0_1 a0_0 t258 _ A19.out).mono ?_); rintro e w' ⟨rfl, ⟨nd, rfl⟩⟩; refine ⟨_, rfl, ?_⟩))
              go_meet
              case rel => exact ⟨_, (true), (by first | rfl | (simp; done) | (simp [*]; done)), H', ⟨by have := HJ1.out; first | omega | exact Nat.le_refl _⟩, ⟨by (with_reducible repeat (first | refine blk_drewN ?_ _ | refine blk_drew ?_ | refine blk_alloc ?_ _)); exact BK248.out⟩, ⟨by repeat (first | (with_reducible first | exact HB.out | apply below_alloc | apply pw_below_drewN | apply below_drew1 | refine below_set ?_ GE248.out) | exact HB.out)⟩⟩
        case rest =>
          clear HC17
          try clear c1
          try clear c2
          try clear p2
          try clear c5
          try clear c7
          try clear c7b0
          try clear c7b1
          try clear c12
          try clear c12b0
          try clear c12b1
          try clear c14
          try clear c14b0
          try clear c14b1
          try clear c16
          try clear c20
          try clear c20b0
          try clear c20b1
          try clear c25
          try clear c25b0
          try clear c25b1
          try clear c26
          try clear c27
          try clear c27b0
          try clear c27b1
          try clear c28
          try clear c29
          try clear c29b0
          try clear c29b1
          try clear hcz4_0
          try clear hcz4_1
          try clear hcz4_2
          try clear hcz4_3
          try clear hcz4_4
          try clear hfz4_0
          try clear hfz4_1
          try clear hfz4_2
          try clear hfz4_3
          try clear hfz4_4
          try clear p2
          obtain ⟨kq, x103_16, rfl, HA, HJ16, BK248, HB⟩ := hcut
          cases kq with
          | zero => exact absurd HA.out (by simp [foghornlaw18_FieldLaws.j1])
          | succ kj16 =>
            have H := HA.out
            clear HA
            simp only [foghornlaw18_FieldLaws.j1] at H
            by_cases c35 : x103_16 = true
            · subst c35
              have H1 : (some false) = some r := by rw [if_pos rfl] at H; exact H
              clear H
              have H := H1
              clear H1
              as_aux_lemma =>
                exact absurd ((Option.some.inj H).trans HQ_.out) (by decide)
            · replace c35 := Bool.eq_false_iff.mpr c35
              subst c35
              have H1 : ((field_Over.f kj16 a0_0 a0_1).bind fun bt270 => (if a0_1 = 0 then (if bt270.2 = 6 then (if bt270.1 = 0 then ((foghornlaw18_awake.f kj16).bind fun t272 => (some t272)) else (some false)) else (some false)) else ((field_Power.f kj16 a0_1 (-1)).bind fun bt273 => ((field_Power.f kj16 a0_1 (wrap64 (a0_3))).bind fun bt275 => ((field_Power.f kj16 a0_1 (wrap64 (a0_4))).bind fun bt277 => ((field_Power.f kj16 a0_1 (wrap64 ((wrap64 (a0_3)) + (wrap64 (a0_4))))).bind fun bt279 => ((field_Power.f kj16 a0_1 255).bind fun bt281 => ((field_Log.f kj16 a0_1).bind fun bt283 => (if bt270.2 = 0 then (if bt273.2 = 0 then (if bt275.2 = 0 then (if bt277.2 = 0 then (if bt279.2 = 0 then (if bt281.2 = 0 then (if bt283.2 = 0 then ((field_Times.f kj16 bt270.1 a0_1).bind fun t285 => (if t285 = a0_0 then ((field_Times.f kj16 bt273.1 a0_1).bind fun t286 => (if t286 = 1 then ((field_Times.f kj16 bt275.1 bt277.1).bind fun t287 => (if t287 = bt279.1 then (if bt281.1 = 1 then (if bt283.1 ≥ 0 then (if bt283.1 < 255 then ((field_Exp.f kj16 bt283.1).bind fun t288 => (if t288 = a0_1 then ((field_Exp.f kj16 (wrap64 (bt283.1 + 255))).bind fun t289 => (if t289 = a0_1 then (if ((a0_1 == 1) == (bt283.1 == 0)) = true then ((foghornlaw18_awake.f kj16).bind fun t290 => (some t290)) else (some false)) else (some false))) else (some false))) else (some false)) else (some false)) else (some false)) else (some false))) else (some false))) else (some false))) else (some false)) else (some false)) else (some false)) else (some false)) else (some false)) else (some false)) else (some false)))))))))) = some r := by rw [if_neg (show ¬ (false = true) by decide)] at H; exact H
              clear H
              have H := H1
              clear H1
              replace H := Option.bind_eq_some_iff.mp H
              obtain ⟨⟨t270, t271⟩, A360, H⟩ := H
              replace H : (if a0_1 = 0 then (if t271 = 6 then (if t270 = 0 then ((foghornlaw18_awake.f kj16).bind fun t272 => (some t272)) else (some false)) else (some false)) else ((field_Power.f kj16 a0_1 (-1)).bind fun bt273 => ((field_Power.f kj16 a0_1 (wrap64 (a0_3))).bind fun bt275 => ((field_Power.f kj16 a0_1 (wrap64 (a0_4))).bind fun bt277 => ((field_Power.f kj16 a0_1 (wrap64 ((wrap64 (a0_3)) + (wrap64 (a0_4))))).bind fun bt279 => ((field_Power.f kj16 a0_1 255).bind fun bt281 => ((field_Log.f kj16 a0_1).bind fun bt283 => (if t271 = 0 then (if bt273.2 = 0 then (if bt275.2 = 0 then (if bt277.2 = 0 then (if bt279.2 = 0 then (if bt281.2 = 0 then (if bt283.2 = 0 then ((field_Times.f kj16 t270 a0_1).bind fun t285 => (if t285 = a0_0 then ((field_Times.f kj16 bt273.1 a0_1).bind fun t286 => (if t286 = 1 then ((field_Times.f kj16 bt275.1 bt277.1).bind fun t287 => (if t287 = bt279.1 then (if bt281.1 = 1 then (if bt283.1 ≥ 0 then (if bt283.1 < 255 then ((field_Exp.f kj16 bt283.1).bind fun t288 => (if t288 = a0_1 then ((field_Exp.f kj16 (wrap64 (bt283.1 + 255))).bind fun t289 => (if t289 = a0_1 then (if ((a0_1 == 1) == (bt283.1 == 0)) = true then ((foghornlaw18_awake.f kj16).bind fun t290 => (some t290)) else (some false)) else (some false))) else (some false))) else (some false)) else (some false)) else (some false)) else (some false))) else (some false))) else (some false))) else (some false)) else (some false)) else (some false)) else (some false)) else (some false)) else (some false)) else (some false))))))))) = some r := H
              have A36 := Aside0.mk A360
              clear A360
              by_cases c37 : a0_1 = 0
              · rw [if_pos c37] at H
                have c37b0 : (a0_1 == 0) = true := beq_iff_eq.mpr c37
                have c37b1 : (a0_1 != 0) = false := bne_eq_false_iff_eq.mpr c37
                clear c37
                by_cases c38 : t271 = 6
                · rw [if_pos c38] at H
                  have c38b0 : (t271 == 6) = true := beq_iff_eq.mpr c38
                  have c38b1 : (t271 != 6) = false := bne_eq_false_iff_eq.mpr c38
                  clear c38
                  by_cases c39 : t270 = 0
                  · rw [if_pos c39] at H
                    have c39b0 : (t270 == 0) = true := beq_iff_eq.mpr c39
                    have c39b1 : (t270 != 0) = false := bne_eq_false_iff_eq.mpr c39
                    clear c39
                    replace H := Option.bind_eq_some_iff.mp H
                    obtain ⟨t272, A400, H⟩ := H
                    replace H : (some t272) = some r := H
                    have A40 := Aside0.mk A400
                    clear A400
                    as_aux_lemma =>
                      obtain rfl := Option.some.inj H
                      go_wp2_with (first | ((with_reducible refine gate_callee (f := 20) rfl ?_); refine goesL_ (some 107) rfl rfl Try.func20 (by kernel_rfl) rfl #[.int .u8 a0_0, .int .u8 a0_1] rfl (by (try simp only [List.map_toArray, List.map_cons, List.map_nil]); first | done | rfl | (simp only [List.length_drop, List.length_take]; rfl)) ?_; (with_reducible refine (field_Over.calls kj16 a0_0 a0_1 t270 t271 _ A36.out).mono ?_); rintro e w' ⟨rfl, ⟨nd, rfl⟩⟩; refine ⟨_, rfl, ?_⟩) | (go_at_call 32; (with_reducible refine (foghornlaw18_awake.calls kj16  t272 _ A40.out).mono ?_); rintro e w41 ⟨rfl, hb⟩; have n0_ := Aside0.mk (blk_below (g := gb248) (o := .cells #[.int .u8 a0_0, .int .u8 a0_1, .int .u8 a0_2, .int .i32 a0_3, .int .i32 a0_4] 39 (0, 0)) (by (with_reducible repeat (first | refine blk_drewN ?_ _ | refine blk_drew ?_ | refine blk_alloc ?_ _)); exact BK248.out) hb); have n1_ := Aside0.mk (below_step (by repeat (first | (with_reducible first | exact HB.out | apply below_alloc | apply pw_below_drewN | apply below_drew1 | refine below_set ?_ GE248.out) | exact HB.out)) hb); clear BK248; clear HB; have BK248 := n0_; have HB := n1_; clear n0_ n1_; (try clear hb); (try clear hb2); (try clear hk); (try clear hi)))
                      go_ret
                      exact ⟨by first | rfl | (simp [errW_none, errW_some] <;> rfl) | (simp [*, errW_none, errW_some] <;> rfl), by repeat (first | (with_reducible first | exact HB.out | apply below_alloc | apply pw_below_drewN | apply below_drew1 | refine below_set ?_ GE248.out) | exact HB.out)⟩
                  · rw [if_neg c39] at H
                    have c39b0 : (t270 == 0) = false := beq_eq_false_iff_ne.mpr c39
                    have c39b1 : (t270 != 0) = true := bne_iff_ne.mpr c39
                    as_aux_lemma =>
                      exact absurd ((Option.some.inj H).trans HQ_.out) (by decide)
                · rw [if_neg c38] at H
                  have c38b0 : (t271 == 6) = false := beq_eq_false_iff_ne.mpr c38
                  have c38b1 : (t271 != 6) = true := bne_iff_ne.mpr c38
                  as_aux_lemma =>
                    exact absurd ((Option.some.inj H).trans HQ_.out) (by decide)
              · rw [if_neg c37] at H
                have c37b0 : (a0_1 == 0) = false := beq_eq_false_iff_ne.mpr c37
                have c37b1 : (a0_1 != 0) = true := bne_iff_ne.mpr c37
                replace H := Option.bind_eq_some_iff.mp H
                obtain ⟨⟨t273, t274⟩, A420, H⟩ := H
                replace H : ((field_Power.f kj16 a0_1 (wrap64 (a0_3))).bind fun bt275 => ((field_Power.f kj16 a0_1 (wrap64 (a0_4))).bind fun bt277 => ((field_Power.f kj16 a0_1 (wrap64 ((wrap64 (a0_3)) + (wrap64 (a0_4))))).bind fun bt279 => ((field_Power.f kj16 a0_1 255).bind fun bt281 => ((field_Log.f kj16 a0_1).bind fun bt283 => (if t271 = 0 then (if t274 = 0 then (if bt275.2 = 0 then (if bt277.2 = 0 then (if bt279.2 = 0 then (if bt281.2 = 0 then (if bt283.2 = 0 then ((field_Times.f kj16 t270 a0_1).bind fun t285 => (if t285 = a0_0 then ((field_Times.f kj16 t273 a0_1).bind fun t286 => (if t286 = 1 then ((field_Times.f kj16 bt275.1 bt277.1).bind fun t287 => (if t287 = bt279.1 then (if bt281.1 = 1 then (if bt283.1 ≥ 0 then (if bt283.1 < 255 then ((field_Exp.f kj16 bt283.1).bind fun t288 => (if t288 = a0_1 then ((field_Exp.f kj16 (wrap64 (bt283.1 + 255))).bind fun t289 => (if t289 = a0_1 then (if ((a0_1 == 1) == (bt283.1 == 0)) = true then ((foghornlaw18_awake.f kj16).bind fun t290 => (some t290)) else (some false)) else (some false))) else (some false))) else (some false)) else (some false)) else (some false)) else (some false))) else (some false))) else (some false))) else (some false)) else (some false)) else (some false)) else (some false)) else (some false)) else (some false)) else (some false))))))) = some r := H
                have A42 := Aside0.mk A420
                clear A420
                replace H := Option.bind_eq_some_iff.mp H
                obtain ⟨⟨t275, t276⟩, A430, H⟩ := H
                replace H : ((field_Power.f kj16 a0_1 (wrap64 (a0_4))).bind fun bt277 => ((field_Power.f kj16 a0_1 (wrap64 ((wrap64 (a0_3)) + (wrap64 (a0_4))))).bind fun bt279 => ((field_Power.f kj16 a0_1 255).bind fun bt281 => ((field_Log.f kj16 a0_1).bind fun bt283 => (if t271 = 0 then (if t274 = 0 then (if t276 = 0 then (if bt277.2 = 0 then (if bt279.2 = 0 then (if bt281.2 = 0 then (if bt283.2 = 0 then ((field_Times.f kj16 t270 a0_1).bind fun t285 => (if t285 = a0_0 then ((field_Times.f kj16 t273 a0_1).bind fun t286 => (if t286 = 1 then ((field_Times.f kj16 t275 bt277.1).bind fun t287 => (if t287 = bt279.1 then (if bt281.1 = 1 then (if bt283.1 ≥ 0 then (if bt283.1 < 255 then ((field_Exp.f kj16 bt283.1).bind fun t288 => (if t288 = a0_1 then ((field_Exp.f kj16 (wrap64 (bt283.1 + 255))).bind fun t289 => (if t289 = a0_1 then (if ((a0_1 == 1) == (bt283.1 == 0)) = true then ((foghornlaw18_awake.f kj16).bind fun t290 => (some t290)) else (some false)) else (some false))) else (some false))) else (some false)) else (some false)) else (some false)) else (some false))) else (some false))) else (some false))) else (some false)) else (some false)) else (some false)) else (some false)) else (some false)) else (some false)) else (some false)))))) = some r := H
                have A43 := Aside0.mk A430
                clear A430
                replace H := Option.bind_eq_some_iff.mp H
                obtain ⟨⟨t277, t278⟩, A440, H⟩ := H
                replace H : ((field_Power.f kj16 a0_1 (wrap64 ((wrap64 (a0_3)) + (wrap64 (a0_4))))).bind fun bt279 => ((field_Power.f kj16 a0_1 255).bind fun bt281 => ((field_Log.f kj16 a0_1).bind fun bt283 => (if t271 = 0 then (if t274 = 0 then (if t276 = 0 then (if t278 = 0 then (if bt279.2 = 0 then (if bt281.2 = 0 then (if bt283.2 = 0 then ((field_Times.f kj16 t270 a0_1).bind fun t285 => (if t285 = a0_0 then ((field_Times.f kj16 t273 a0_1).bind fun t286 => (if t286 = 1 then ((field_Times.f kj16 t275 t277).bind fun t287 => (if t287 = bt279.1 then (if bt281.1 = 1 then (if bt283.1 ≥ 0 then (if bt283.1 < 255 then ((field_Exp.f kj16 bt283.1).bind fun t288 => (if t288 = a0_1 then ((field_Exp.f kj16 (wrap64 (bt283.1 + 255))).bind fun t289 => (if t289 = a0_1 then (if ((a0_1 == 1) == (bt283.1 == 0)) = true then ((foghornlaw18_awake.f kj16).bind fun t290 => (some t290)) else (some false)) else (some false))) else (some false))) else (some false)) else (some false)) else (some false)) else (some false))) else (some false))) else (some false))) else (some false)) else (some false)) else (some false)) else (some false)) else (some false)) else (some false)) else (some false))))) = some r := H
                have A44 := Aside0.mk A440
                clear A440
                replace H := Option.bind_eq_some_iff.mp H
                obtain ⟨⟨t279, t280⟩, A450, H⟩ := H
                replace H : ((field_Power.f kj16 a0_1 255).bind fun bt281 => ((field_Log.f kj16 a0_1).bind fun bt283 => (if t271 = 0 then (if t274 = 0 then (if t276 = 0 then (if t278 = 0 then (if t280 = 0 then (if bt281.2 = 0 then (if bt283.2 = 0 then ((field_Times.f kj16 t270 a0_1).bind fun t285 => (if t285 = a0_0 then ((field_Times.f kj16 t273 a0_1).bind fun t286 => (if t286 = 1 then ((field_Times.f kj16 t275 t277).bind fun t287 => (if t287 = t279 then (if bt281.1 = 1 then (if bt283.1 ≥ 0 then (if bt283.1 < 255 then ((field_Exp.f kj16 bt283.1).bind fun t288 => (if t288 = a0_1 then ((field_Exp.f kj16 (wrap64 (bt283.1 + 255))).bind fun t289 => (if t289 = a0_1 then (if ((a0_1 == 1) == (bt283.1 == 0)) = true then ((foghornlaw18_awake.f kj16).bind fun t290 => (some t290)) else (some false)) else (some false))) else (some false))) else (some false)) else (some false)) else (some false)) else (some false))) else (some false))) else (some false))) else (some false)) else (some false)) else (some false)) else (some false)) else (some false)) else (some false)) else (some false)))) = some r := H
                have A45 := Aside0.mk A450
                clear A450
                replace H := Option.bind_eq_some_iff.mp H
                obtain ⟨⟨t281, t282⟩, A460, H⟩ := H
                replace H : ((field_Log.f kj16 a0_1).bind fun bt283 => (if t271 = 0 then (if t274 = 0 then (if t276 = 0 then (if t278 = 0 then (if t280 = 0 then (if t282 = 0 then (if bt283.2 = 0 then ((field_Times.f kj16 t270 a0_1).bind fun t285 => (if t285 = a0_0 then ((field_Times.f kj16 t273 a0_1).bind fun t286 => (if t286 = 1 then ((field_Times.f kj16 t275 t277).bind fun t287 => (if t287 = t279 then (if t281 = 1 then (if bt283.1 ≥ 0 then (if bt283.1 < 255 then ((field_Exp.f kj16 bt283.1).bind fun t288 => (if t288 = a0_1 then ((field_Exp.f kj16 (wrap64 (bt283.1 + 255))).bind fun t289 => (if t289 = a0_1 then (if ((a0_1 == 1) == (bt283.1 == 0)) = true then ((foghornlaw18_awake.f kj16).bind fun t290 => (some t290)) else (some false)) else (some false))) else (some false))) else (some false)) else (some false)) else (some false)) else (some false))) else (some false))) else (some false))) else (some false)) else (some false)) else (some false)) else (some false)) else (some false)) else (some false)) else (some false))) = some r := H
                have A46 := Aside0.mk A460
                clear A460
                replace H := Option.bind_eq_some_iff.mp H
                obtain ⟨⟨t283, t284⟩, A470, H⟩ := H
                replace H : (if t271 = 0 then (if t274 = 0 then (if t276 = 0 then (if t278 = 0 then (if t280 = 0 then (if t282 = 0 then (if t284 = 0 then ((field_Times.f kj16 t270 a0_1).bind fun t285 => (if t285 = a0_0 then ((field_Times.f kj16 t273 a0_1).bind fun t286 => (if t286 = 1 then ((field_Times.f kj16 t275 t277).bind fun t287 => (if t287 = t279 then (if t281 = 1 then (if t283 ≥ 0 then (if t283 < 255 then ((field_Exp.f kj16 t283).bind fun t288 => (if t288 = a0_1 then ((field_Exp.f kj16 (wrap64 (t283 + 255))).bind fun t289 => (if t289 = a0_1 then (if ((a0_1 == 1) == (t283 == 0)) = true then ((foghornlaw18_awake.f kj16).bind fun t290 => (some t290)) else (some false)) else (some false))) else (some false))) else (some false)) else (some false)) else (some false)) else (some false))) else (some false))) else (some false))) else (some false)) else (some false)) else (some false)) else (some false)) else (some false)) else (some false)) else (some false)) = some r := H
                have A47 := Aside0.mk A470
                clear A470
                by_cases c48 : t271 = 0
                · rw [if_pos c48] at H
                  have c48b0 : (t271 == 0) = true := beq_iff_eq.mpr c48
                  have c48b1 : (t271 != 0) = false := bne_eq_false_iff_eq.mpr c48
                  clear c48
                  by_cases c49 : t274 = 0
                  · rw [if_pos c49] at H
                    have c49b0 : (t274 == 0) = true := beq_iff_eq.mpr c49
                    have c49b1 : (t274 != 0) = false := bne_eq_false_iff_eq.mpr c49
                    clear c49
                    by_cases c50 : t276 = 0
                    · rw [if_pos c50] at H
                      have c50b0 : (t276 == 0) = true := beq_iff_eq.mpr c50
                      have c50b1 : (t276 != 0) = false := bne_eq_false_iff_eq.mpr c50
                      clear c50
                      by_cases c51 : t278 = 0
                      · rw [if_pos c51] at H
                        have c51b0 : (t278 == 0) = true := beq_iff_eq.mpr c51
                        have c51b1 : (t278 != 0) = false := bne_eq_false_iff_eq.mpr c51
                        clear c51
                        by_cases c52 : t280 = 0
                        · rw [if_pos c52] at H
                          have c52b0 : (t280 == 0) = true := beq_iff_eq.mpr c52
                          have c52b1 : (t280 != 0) = false := bne_eq_false_iff_eq.mpr c52
                          clear c52
                          by_cases c53 : t282 = 0
                          · rw [if_pos c53] at H
                            have c53b0 : (t282 == 0) = true := beq_iff_eq.mpr c53
                            have c53b1 : (t282 != 0) = false := bne_eq_false_iff_eq.mpr c53
                            clear c53
                            by_cases c54 : t284 = 0
                            · rw [if_pos c54] at H
                              have c54b0 : (t284 == 0) = true := beq_iff_eq.mpr c54
                              have c54b1 : (t284 != 0) = false := bne_eq_false_iff_eq.mpr c54
                              clear c54
                              replace H := Option.bind_eq_some_iff.mp H
                              obtain ⟨t285, A550, H⟩ := H
                              replace H : (if t285 = a0_0 then ((field_Times.f kj16 t273 a0_1).bind fun t286 => (if t286 = 1 then ((field_Times.f kj16 t275 t277).bind fun t287 => (if t287 = t279 then (if t281 = 1 then (if t283 ≥ 0 then (if t283 < 255 then ((field_Exp.f kj16 t283).bind fun t288 => (if t288 = a0_1 then ((field_Exp.f kj16 (wrap64 (t283 + 255))).bind fun t289 => (if t289 = a0_1 then (if ((a0_1 == 1) == (t283 == 0)) = true then ((foghornlaw18_awake.f kj16).bind fun t290 => (some t290)) else (some false)) else (some false))) else (some false))) else (some false)) else (some false)) else (some false)) else (some false))) else (some false))) else (some false)) = some r := H
                              have A55 := Aside0.mk A550
                              clear A550
                              by_cases c56 : t285 = a0_0
                              · rw [if_pos c56] at H
                                have c56b0 : (t285 == a0_0) = true := beq_iff_eq.mpr c56
                                have c56b1 : (t285 != a0_0) = false := bne_eq_false_iff_eq.mpr c56
                                clear c56
                                replace H := Option.bind_eq_some_iff.mp H
                                obtain ⟨t286, A570, H⟩ := H
                                replace H : (if t286 = 1 then ((field_Times.f kj16 t275 t277).bind fun t287 => (if t287 = t279 then (if t281 = 1 then (if t283 ≥ 0 then (if t283 < 255 then ((field_Exp.f kj16 t283).bind fun t288 => (if t288 = a0_1 then ((field_Exp.f kj16 (wrap64 (t283 + 255))).bind fun t289 => (if t289 = a0_1 then (if ((a0_1 == 1) == (t283 == 0)) = true then ((foghornlaw18_awake.f kj16).bind fun t290 => (some t290)) else (some false)) else (some false))) else (some false))) else (some false)) else (some false)) else (some false)) else (some false))) else (some false)) = some r := H
                                have A57 := Aside0.mk A570
                                clear A570
                                by_cases c58 : t286 = 1
                                · rw [if_pos c58] at H
                                  have c58b0 : (t286 == 1) = true := beq_iff_eq.mpr c58
                                  have c58b1 : (t286 != 1) = false := bne_eq_false_iff_eq.mpr c58
                                  clear c58
                                  replace H := Option.bind_eq_some_iff.mp H
                                  obtain ⟨t287, A590, H⟩ := H
                                  replace H : (if t287 = t279 then (if t281 = 1 then (if t283 ≥ 0 then (if t283 < 255 then ((field_Exp.f kj16 t283).bind fun t288 => (if t288 = a0_1 then ((field_Exp.f kj16 (wrap64 (t283 + 255))).bind fun t289 => (if t289 = a0_1 then (if ((a0_1 == 1) == (t283 == 0)) = true then ((foghornlaw18_awake.f kj16).bind fun t290 => (some t290)) else (some false)) else (some false))) else (some false))) else (some false)) else (some false)) else (some false)) else (some false)) = some r := H
                                  have A59 := Aside0.mk A590
                                  clear A590
                                  by_cases c60 : t287 = t279
                                  · rw [if_pos c60] at H
                                    have c60b0 : (t287 == t279) = true := beq_iff_eq.mpr c60
                                    have c60b1 : (t287 != t279) = false := bne_eq_false_iff_eq.mpr c60
                                    clear c60
                                    by_cases c61 : t281 = 1
                                    · rw [if_pos c61] at H
                                      have c61b0 : (t281 == 1) = true := beq_iff_eq.mpr c61
                                      have c61b1 : (t281 != 1) = false := bne_eq_false_iff_eq.mpr c61
                                      clear c61
                                      by_cases c62 : t283 ≥ 0
                                      · rw [if_pos c62] at H
                                        have c62b0 : decide (0 ≤ t283) = true := decide_eq_true c62
                                        clear c62
                                        by_cases c63 : t283 < 255
                                        · rw [if_pos c63] at H
                                          have c63b0 : decide (t283 < 255) = true := decide_eq_true c63
                                          clear c63
                                          replace H := Option.bind_eq_some_iff.mp H
                                          obtain ⟨t288, A640, H⟩ := H
                                          replace H : (if t288 = a0_1 then ((field_Exp.f kj16 (wrap64 (t283 + 255))).bind fun t289 => (if t289 = a0_1 then (if ((a0_1 == 1) == (t283 == 0)) = true then ((foghornlaw18_awake.f kj16).bind fun t290 => (some t290)) else (some false)) else (some false))) else (some false)) = some r := H
                                          have A64 := Aside0.mk A640
                                          clear A640
                                          by_cases c65 : t288 = a0_1
                                          · rw [if_pos c65] at H
                                            have c65b0 : (t288 == a0_1) = true := beq_iff_eq.mpr c65
                                            have c65b1 : (t288 != a0_1) = false := bne_eq_false_iff_eq.mpr c65
                                            clear c65
                                            replace H := Option.bind_eq_some_iff.mp H
                                            obtain ⟨t289, A660, H⟩ := H
                                            replace H : (if t289 = a0_1 then (if ((a0_1 == 1) == (t283 == 0)) = true then ((foghornlaw18_awake.f kj16).bind fun t290 => (some t290)) else (some false)) else (some false)) = some r := H
                                            have A66 := Aside0.mk A660
                                            clear A660
                                            by_cases c67 : t289 = a0_1
                                            · rw [if_pos c67] at H
                                              have c67b0 : (t289 == a0_1) = true := beq_iff_eq.mpr c67
                                              have c67b1 : (t289 != a0_1) = false := bne_eq_false_iff_eq.mpr c67
                                              clear c67
                                              by_cases c68 : ((a0_1 == 1) == (t283 == 0)) = true
                                              · rw [if_pos c68] at H
                                                have c68b0 : ((a0_1 == 1) == (t283 == 0)) = true := c68
                                                (try (have c68b1 : decide ((a0_1 == 1) = (t283 == 0)) = true := by simpa using c68))
                                                (try (have c68b2 : ((a0_1 == 1) == (t283 == 0)) = true := by simpa using c68))
                                                clear c68
                                                replace H := Option.bind_eq_some_iff.mp H
                                                obtain ⟨t290, A690, H⟩ := H
                                                replace H : (some t290) = some r := H
                                                have A69 := Aside0.mk A690
                                                clear A690
                                                as_aux_lemma =>
                                                  obtain rfl := Option.some.inj H
                                                  go_wp2_with (first | ((with_reducible refine gate_callee (f := 20) rfl ?_); refine goesL_ (some 107) rfl rfl Try.func20 (by kernel_rfl) rfl #[.int .u8 a0_0, .int .u8 a0_1] rfl (by (try simp only [List.map_toArray, List.map_cons, List.map_nil]); first | done | rfl | (simp only [List.length_drop, List.length_take]; rfl)) ?_; (with_reducible refine (field_Over.calls kj16 a0_0 a0_1 t270 t271 _ A36.out).mono ?_); rintro e w' ⟨rfl, ⟨nd, rfl⟩⟩; refine ⟨_, rfl, ?_⟩) | ((with_reducible refine gate_callee (f := 22) rfl ?_); refine goesL_ (some 123) rfl rfl Try.func22 (by kernel_rfl) rfl #[.int .u8 a0_1, .int .i64 (-1)] rfl (by (try simp only [List.map_toArray, List.map_cons, List.map_nil]); first | done | rfl | (simp only [List.length_drop, List.length_take]; rfl)) ?_; (with_reducible refine (field_Power.calls kj16 a0_1 (-1) t273 t274 _ A42.out).mono ?_); rintro e w' ⟨rfl, ⟨nd, rfl⟩⟩; refine ⟨_, rfl, ?_⟩; have hcz70_0 : wc.cell? ⟨gb248, 0, none⟩ = some (.int .u8 a0_0) := (blk_cell BK248.out 0).trans rfl; have hcz70_1 : wc.cell? ⟨gb248, 1, none⟩ = some (.int .u8 a0_1) := (blk_cell BK248.out 1).trans rfl; have hcz70_2 : wc.cell? ⟨gb248, 2, none⟩ = some (.int .u8 a0_2) := (blk_cell BK248.out 2).trans rfl; have hcz70_3 : wc.cell? ⟨gb248, 3, none⟩ = some (.int .i32 a0_3) := (blk_cell BK248.out 3).trans rfl; have hcz70_4 : wc.cell? ⟨gb248, 4, none⟩ = some (.int .i32 a0_4) := (blk_cell BK248.out 4).trans rfl; have hfz70_0 := blk_frozen BK248.out 0; have hfz70_1 := blk_frozen BK248.out 1; have hfz70_2 := blk_frozen BK248.out 2; have hfz70_3 := blk_frozen BK248.out 3; have hfz70_4 := blk_frozen BK248.out 4) | ((with_reducible refine gate_callee (f := 22) rfl ?_); refine goesL_ (some 131) rfl rfl Try.func22 (by kernel_rfl) rfl #[.int .u8 a0_1, .int .i64 (wrap64 (a0_3))] rfl (by (try simp only [List.map_toArray, List.map_cons, List.map_nil]); first | done | rfl | (simp only [List.length_drop, List.length_take]; rfl)) ?_; (with_reducible refine (field_Power.calls kj16 a0_1 (wrap64 (a0_3)) t275 t276 _ A43.out).mono ?_); rintro e w' ⟨rfl, ⟨nd, rfl⟩⟩; refine ⟨_, rfl, ?_⟩) | ((with_reducible refine gate_callee (f := 22) rfl ?_); refine goesL_ (some 139) rfl rfl Try.func22 (by kernel_rfl) rfl #[.int .u8 a0_1, .int .i64 (wrap64 (a0_4))] rfl (by (try simp only [List.map_toArray, List.map_cons, List.map_nil]); first | done | rfl | (simp only [List.length_drop, List.length_take]; rfl)) ?_; (with_reducible refine (field_Power.calls kj16 a0_1 (wrap64 (a0_4)) t277 t278 _ A44.out).mono ?_); rintro e w' ⟨rfl, ⟨nd, rfl⟩⟩; refine ⟨_, rfl, ?_⟩) | ((with_reducible refine gate_callee (f := 22) rfl ?_); refine goesL_ (some 151) rfl rfl Try.func22 (by kernel_rfl) rfl #[.int .u8 a0_1, .int .i64 (wrap64 ((wrap64 (a0_3)) + (wrap64 (a0_4))))] rfl (by (try simp only [List.map_toArray, List.map_cons, List.map_nil]); first | done | rfl | (simp only [List.length_drop, List.length_take]; rfl)) ?_; (with_reducible refine (field_Power.calls kj16 a0_1 (wrap64 ((wrap64 (a0_3)) + (wrap64 (a0_4)))) t279 t280 _ A45.out).mono ?_); rintro e w' ⟨rfl, ⟨nd, rfl⟩⟩; refine ⟨_, rfl, ?_⟩) | ((with_reducible refine gate_callee (f := 22) rfl ?_); refine goesL_ (some 156) rfl rfl Try.func22 (by kernel_rfl) rfl #[.int .u8 a0_1, .int .i64 255] rfl (by (try simp only [List.map_toArray, List.map_cons, List.map_nil]); first | done | rfl | (simp only [List.length_drop, List.length_take]; rfl)) ?_; (with_reducible refine (field_Power.calls kj16 a0_1 255 t281 t282 _ A46.out).mono ?_); rintro e w' ⟨rfl, ⟨nd, rfl⟩⟩; refine ⟨_, rfl, ?_⟩) | ((with_reducible refine gate_callee (f := 24) rfl ?_); refine goesL_ (some 161) rfl rfl Try.func24 (by kernel_rfl) rfl #[.int .u8 a0_1] rfl (by (try simp only [List.map_toArray, List.map_cons, List.map_nil]); first | done | rfl | (simp only [List.length_drop, List.length_take]; rfl)) ?_; (with_reducible refine (field_Log.calls kj16 a0_1 t283 t284 _ A47.out).mono ?_); rintro e w' ⟨rfl, ⟨nd, rfl⟩⟩; refine ⟨_, rfl, ?_⟩) | (go_at_call 28; (with_reducible refine (field_Times.calls kj16 t270 a0_1 t285 _ A55.out).mono ?_); rintro e w' ⟨rfl, ⟨nd, rfl⟩⟩) | (go_at_call 28; (with_reducible refine (field_Times.calls kj16 t273 a0_1 t286 _ A57.out).mono ?_); rintro e w' ⟨rfl, ⟨nd, rfl⟩⟩) | (go_at_call 28; (with_reducible refine (field_Times.calls kj16 t275 t277 t287 _ A59.out).mono ?_); rintro e w' ⟨rfl, ⟨nd, rfl⟩⟩) | (go_at_call 30; (with_reducible refine (field_Exp.calls kj16 t283 t288 _ A64.out).mono ?_); rintro e w' ⟨rfl, ⟨nd, rfl⟩⟩) | (go_at_call 30; (with_reducible refine (field_Exp.calls kj16 (wrap64 (t283 + 255)) t289 _ A66.out).mono ?_); rintro e w' ⟨rfl, ⟨nd, rfl⟩⟩) | (go_at_call 32; (with_reducible refine (foghornlaw18_awake.calls kj16  t290 _ A69.out).mono ?_); rintro e w71 ⟨rfl, hb⟩; have n0_ := Aside0.mk (blk_below (g := gb248) (o := .cells #[.int .u8 a0_0, .int .u8 a0_1, .int .u8 a0_2, .int .i32 a0_3, .int .i32 a0_4] 39 (0, 0)) (by (with_reducible repeat (first | refine blk_drewN ?_ _ | refine blk_drew ?_ | refine blk_alloc ?_ _)); exact BK248.out) hb); have n1_ := Aside0.mk (below_step (by repeat (first | (with_reducible first | exact HB.out | apply below_alloc | apply pw_below_drewN | apply below_drew1 | refine below_set ?_ GE248.out) | exact HB.out)) hb); clear BK248; clear HB; have BK248 := n0_; have HB := n1_; clear n0_ n1_; (try clear hb); (try clear hb2); (try clear hk); (try clear hi)))
                                                  go_ret
                                                  exact ⟨by first | rfl | (simp [errW_none, errW_some] <;> rfl) | (simp [*, errW_none, errW_some] <;> rfl), by repeat (first | (with_reducible first | exact HB.out | apply below_alloc | apply pw_below_drewN | apply below_drew1 | refine below_set ?_ GE248.out) | exact HB.out)⟩
                                              · rw [if_neg c68] at H
                                                have c68b0 : ((a0_1 == 1) == (t283 == 0)) = false := by simpa using c68
                                                (try (have c68b1 : decide ((a0_1 == 1) = (t283 == 0)) = false := by simpa using c68))
                                                (try (have c68b2 : ((a0_1 == 1) == (t283 == 0)) = false := by simpa using c68))
                                                (try (have c68b3 : ¬ ((a0_1 == 1) = (t283 == 0)) := by simpa using c68))
                                                clear c68
                                                as_aux_lemma =>
                                                  exact absurd ((Option.some.inj H).trans HQ_.out) (by decide)
                                            · rw [if_neg c67] at H
                                              have c67b0 : (t289 == a0_1) = false := beq_eq_false_iff_ne.mpr c67
                                              have c67b1 : (t289 != a0_1) = true := bne_iff_ne.mpr c67
                                              as_aux_lemma =>
                                                exact absurd ((Option.some.inj H).trans HQ_.out) (by decide)
                                          · rw [if_neg c65] at H
                                            have c65b0 : (t288 == a0_1) = false := beq_eq_false_iff_ne.mpr c65
                                            have c65b1 : (t288 != a0_1) = true := bne_iff_ne.mpr c65
                                            as_aux_lemma =>
                                              exact absurd ((Option.some.inj H).trans HQ_.out) (by decide)
                                        · rw [if_neg c63] at H
                                          have c63b0 : decide (t283 < 255) = false := decide_eq_false c63
                                          clear c63
                                          as_aux_lemma =>
                                            exact absurd ((Option.some.inj H).trans HQ_.out) (by decide)
                                      · rw [if_neg c62] at H
                                        have c62b0 : decide (0 ≤ t283) = false := decide_eq_false c62
                                        clear c62
                                        as_aux_lemma =>
                                          exact absurd ((Option.some.inj H).trans HQ_.out) (by decide)
                                    · rw [if_neg c61] at H
                                      have c61b0 : (t281 == 1) = false := beq_eq_false_iff_ne.mpr c61
                                      have c61b1 : (t281 != 1) = true := bne_iff_ne.mpr c61
                                      as_aux_lemma =>
                                        exact absurd ((Option.some.inj H).trans HQ_.out) (by decide)
                                  · rw [if_neg c60] at H
                                    have c60b0 : (t287 == t279) = false := beq_eq_false_iff_ne.mpr c60
                                    have c60b1 : (t287 != t279) = true := bne_iff_ne.mpr c60
                                    as_aux_lemma =>
                                      exact absurd ((Option.some.inj H).trans HQ_.out) (by decide)
                                · rw [if_neg c58] at H
                                  have c58b0 : (t286 == 1) = false := beq_eq_false_iff_ne.mpr c58
                                  have c58b1 : (t286 != 1) = true := bne_iff_ne.mpr c58
                                  as_aux_lemma =>
                                    exact absurd ((Option.some.inj H).trans HQ_.out) (by decide)
                              · rw [if_neg c56] at H
                                have c56b0 : (t285 == a0_0) = false := beq_eq_false_iff_ne.mpr c56
                                have c56b1 : (t285 != a0_0) = true := bne_iff_ne.mpr c56
                                as_aux_lemma =>
                                  exact absurd ((Option.some.inj H).trans HQ_.out) (by decide)
                            · rw [if_neg c54] at H
                              have c54b0 : (t284 == 0) = false := beq_eq_false_iff_ne.mpr c54
                              have c54b1 : (t284 != 0) = true := bne_iff_ne.mpr c54
                              as_aux_lemma =>
                                exact absurd ((Option.some.inj H).trans HQ_.out) (by decide)
                          · rw [if_neg c53] at H
                            have c53b0 : (t282 == 0) = false := beq_eq_false_iff_ne.mpr c53
                            have c53b1 : (t282 != 0) = true := bne_iff_ne.mpr c53
                            as_aux_lemma =>
                              exact absurd ((Option.some.inj H).trans HQ_.out) (by decide)
                        · rw [if_neg c52] at H
                          have c52b0 : (t280 == 0) = false := beq_eq_false_iff_ne.mpr c52
                          have c52b1 : (t280 != 0) = true := bne_iff_ne.mpr c52
                          as_aux_lemma =>
                            exact absurd ((Option.some.inj H).trans HQ_.out) (by decide)
                      · rw [if_neg c51] at H
                        have c51b0 : (t278 == 0) = false := beq_eq_false_iff_ne.mpr c51
                        have c51b1 : (t278 != 0) = true := bne_iff_ne.mpr c51
                        as_aux_lemma =>
                          exact absurd ((Option.some.inj H).trans HQ_.out) (by decide)
                    · rw [if_neg c50] at H
                      have c50b0 : (t276 == 0) = false := beq_eq_false_iff_ne.mpr c50
                      have c50b1 : (t276 != 0) = true := bne_iff_ne.mpr c50
                      as_aux_lemma =>
                        exact absurd ((Option.some.inj H).trans HQ_.out) (by decide)
                  · rw [if_neg c49] at H
                    have c49b0 : (t274 == 0) = false := beq_eq_false_iff_ne.mpr c49
                    have c49b1 : (t274 != 0) = true := bne_iff_ne.mpr c49
                    as_aux_lemma =>
                      exact absurd ((Option.some.inj H).trans HQ_.out) (by decide)
                · rw [if_neg c48] at H
                  have c48b0 : (t271 == 0) = false := beq_eq_false_iff_ne.mpr c48
                  have c48b1 : (t271 != 0) = true := bne_iff_ne.mpr c48
                  as_aux_lemma =>
                    exact absurd ((Option.some.inj H).trans HQ_.out) (by decide)

theorem foghornlaw18_FieldLaws.walk (P : foghornlaw18_FieldLaws.Pure) (a0_0 : Int) (a0_1 : Int) (a0_2 : Int) (a0_3 : Int) (a0_4 : Int) (w : World)  (hw0_0 : (Lit.int .u8 a0_0).wf = true) (hw0_1 : (Lit.int .u8 a0_1).wf = true) (hw0_2 : (Lit.int .u8 a0_2).wf = true) (hw0_3 : (Lit.int .i32 a0_3).wf = true) (hw0_4 : (Lit.int .i32 a0_4).wf = true) :
    Calls Try.prog 5 #[.agg #[.int .u8 a0_0, .int .u8 a0_1, .int .u8 a0_2, .int .i32 a0_3, .int .i32 a0_4]] w fun e w' => e = .returned (.bool true) ∧ Below w.heap.size w w' := by
  obtain ⟨k, h⟩ := P a0_0 a0_1 a0_2 a0_3 a0_4 hw0_0 hw0_1 hw0_2 hw0_3 hw0_4
  refine (foghornlaw18_FieldLaws.calls k a0_0 a0_1 a0_2 a0_3 a0_4 true w h rfl).mono ?_
  rintro e w' ⟨rfl, hd⟩
  exact ⟨rfl, hd⟩

end Go.Proofs.Ytmdeldiocaofkaa.Q
