-- Printed by myprint.py (ours) over the kit's printer, out of the translation.
import Derived.Test.YtncoakokdajibaaQ0
import Derived.Test.YtncoakokdajibaaQ3
import Derived.Test.YtncoakokdajibaaQ4
import Derived.Test.YtncoakokdajibaaQ12
import Derived.Test.YtncoakokdajibaaQ14
import Derived.Test.YtncoakokdajibaaQF1
namespace Go.Proofs.Ytncoakokdajibaa.Q
open Go.RowKit Go.Proofs.YtncoakokdajibaaW.PrintWords Go.Proofs.YtncoakokdajibaaW.PrintLast Go.Proofs.YtncoakokdajibaaW.PrintMore
attribute [local go_sem] ArrW.ptrOf_slice max2_int min2_int max_two min_two max_three min_three max_four min_four   -- for this text's walks alone
set_option linter.unusedVariables false
set_option linter.unusedSimpArgs false

/-! ### foghornlaw19_ReedBack: function 9 -/
set_option maxHeartbeats 8000000 in
set_option maxRecDepth 100000 in
theorem foghornlaw19_ReedBack.calls (k : Nat) (a0 : ByteArray) (a1 : Int) (a2 : ByteArray) (a3 : Int) (r : Bool) (w : World) (h : foghornlaw19_ReedBack.f k a0 a1 a2 a3 = some r) (hq_ : r = true) :
    Calls Try.prog 9 #[.string a0, .int .i64 a1, .string a2, .int .i64 a3] w fun e w' => e = .returned (.bool r) ∧ Below w.heap.size w w' := by
  have HQ_ := Aside0.mk hq_
  clear hq_
  have HB := Aside0.mk (Below.refl w.heap.size w)
  have H : ((foghornlaw19_works.f k).bind fun t418 => (if t418 = true then ((foghornlaw19_fit.f a0 a1).bind fun bt419 => ((reed_Encode.f k bt419.1 bt419.2).bind fun bt421 => ((reed_Data.f k bt421.1 bt419.2).bind fun bt423 => ((reed_Whole.f k bt421.1 bt419.2).bind fun bt425 => ((reed_Syndromes.f k bt421.1 bt419.2).bind fun bt427 => (if bt421.2 = 0 then (if bt423.2 = 0 then (if bt425.2 = 0 then (if bt427.2 = 0 then (if bt423.1.toList = bt419.1.toList then (if bt425.1 = true then (if (bt421.1.size : Int) = (wrap64 ((bt419.1.size : Int) + bt419.2)) then (foghornlaw19_ReedBack.j0 k bt419.2 a2 a3 bt427.1 ((bt427.1.length : Int) != bt419.2)) else (foghornlaw19_ReedBack.j0 k bt419.2 a2 a3 bt427.1 true)) else (foghornlaw19_ReedBack.j0 k bt419.2 a2 a3 bt427.1 true)) else (foghornlaw19_ReedBack.j0 k bt419.2 a2 a3 bt427.1 true)) else (foghornlaw19_ReedBack.j0 k bt419.2 a2 a3 bt427.1 true)) else (foghornlaw19_ReedBack.j0 k bt419.2 a2 a3 bt427.1 true)) else (foghornlaw19_ReedBack.j0 k bt419.2 a2 a3 bt427.1 true)) else (foghornlaw19_ReedBack.j0 k bt419.2 a2 a3 bt427.1 true))))))) else (some false))) = some r := h
  clear h
  replace H := Option.bind_eq_some_iff.mp H
  obtain ⟨t418, A50, H⟩ := H
  replace H : (if t418 = true then ((foghornlaw19_fit.f a0 a1).bind fun bt419 => ((reed_Encode.f k bt419.1 bt419.2).bind fun bt421 => ((reed_Data.f k bt421.1 bt419.2).bind fun bt423 => ((reed_Whole.f k bt421.1 bt419.2).bind fun bt425 => ((reed_Syndromes.f k bt421.1 bt419.2).bind fun bt427 => (if bt421.2 = 0 then (if bt423.2 = 0 then (if bt425.2 = 0 then (if bt427.2 = 0 then (if bt423.1.toList = bt419.1.toList then (if bt425.1 = true then (if (bt421.1.size : Int) = (wrap64 ((bt419.1.size : Int) + bt419.2)) then (foghornlaw19_ReedBack.j0 k bt419.2 a2 a3 bt427.1 ((bt427.1.length : Int) != bt419.2)) else (foghornlaw19_ReedBack.j0 k bt419.2 a2 a3 bt427.1 true)) else (foghornlaw19_ReedBack.j0 k bt419.2 a2 a3 bt427.1 true)) else (foghornlaw19_ReedBack.j0 k bt419.2 a2 a3 bt427.1 true)) else (foghornlaw19_ReedBack.j0 k bt419.2 a2 a3 bt427.1 true)) else (foghornlaw19_ReedBack.j0 k bt419.2 a2 a3 bt427.1 true)) else (foghornlaw19_ReedBack.j0 k bt419.2 a2 a3 bt427.1 true)) else (foghornlaw19_ReedBack.j0 k bt419.2 a2 a3 bt427.1 true))))))) else (some false)) = some r := H
  have A5 := Aside0.mk A50
  clear A50
  by_cases c6 : t418 = true
  · subst c6
    have H1 : ((foghornlaw19_fit.f a0 a1).bind fun bt419 => ((reed_Encode.f k bt419.1 bt419.2).bind fun bt421 => ((reed_Data.f k bt421.1 bt419.2).bind fun bt423 => ((reed_Whole.f k bt421.1 bt419.2).bind fun bt425 => ((reed_Syndromes.f k bt421.1 bt419.2).bind fun bt427 => (if bt421.2 = 0 then (if bt423.2 = 0 then (if bt425.2 = 0 then (if bt427.2 = 0 then (if bt423.1.toList = bt419.1.toList then (if bt425.1 = true then (if (bt421.1.size : Int) = (wrap64 ((bt419.1.size : Int) + bt419.2)) then (foghornlaw19_ReedBack.j0 k bt419.2 a2 a3 bt427.1 ((bt427.1.length : Int) != bt419.2)) else (foghornlaw19_ReedBack.j0 k bt419.2 a2 a3 bt427.1 true)) else (foghornlaw19_ReedBack.j0 k bt419.2 a2 a3 bt427.1 true)) else (foghornlaw19_ReedBack.j0 k bt419.2 a2 a3 bt427.1 true)) else (foghornlaw19_ReedBack.j0 k bt419.2 a2 a3 bt427.1 true)) else (foghornlaw19_ReedBack.j0 k bt419.2 a2 a3 bt427.1 true)) else (foghornlaw19_ReedBack.j0 k bt419.2 a2 a3 bt427.1 true)) else (foghornlaw19_ReedBack.j0 k bt419.2 a2 a3 bt427.1 true))))))) = some r := by rw [if_pos rfl] at H; exact H
    clear H
    have H := H1
    clear H1
    replace H := Option.bind_eq_some_iff.mp H
    obtain ⟨⟨t419, t420⟩, A70, H⟩ := H
    replace H : ((reed_Encode.f k t419 t420).bind fun bt421 => ((reed_Data.f k bt421.1 t420).bind fun bt423 => ((reed_Whole.f k bt421.1 t420).bind fun bt425 => ((reed_Syndromes.f k bt421.1 t420).bind fun bt427 => (if bt421.2 = 0 then (if bt423.2 = 0 then (if bt425.2 = 0 then (if bt427.2 = 0 then (if bt423.1.toList = t419.toList then (if bt425.1 = true then (if (bt421.1.size : Int) = (wrap64 ((t419.size : Int) + t420)) then (foghornlaw19_ReedBack.j0 k t420 a2 a3 bt427.1 ((bt427.1.length : Int) != t420)) else (foghornlaw19_ReedBack.j0 k t420 a2 a3 bt427.1 true)) else (foghornlaw19_ReedBack.j0 k t420 a2 a3 bt427.1 true)) else (foghornlaw19_ReedBack.j0 k t420 a2 a3 bt427.1 true)) else (foghornlaw19_ReedBack.j0 k t420 a2 a3 bt427.1 true)) else (foghornlaw19_ReedBack.j0 k t420 a2 a3 bt427.1 true)) else (foghornlaw19_ReedBack.j0 k t420 a2 a3 bt427.1 true)) else (foghornlaw19_ReedBack.j0 k t420 a2 a3 bt427.1 true)))))) = some r := H
    have A7 := Aside0.mk A70
    clear A70
    replace H := Option.bind_eq_some_iff.mp H
    obtain ⟨⟨t421, t422⟩, A80, H⟩ := H
    replace H : ((reed_Data.f k t421 t420).bind fun bt423 => ((reed_Whole.f k t421 t420).bind fun bt425 => ((reed_Syndromes.f k t421 t420).bind fun bt427 => (if t422 = 0 then (if bt423.2 = 0 then (if bt425.2 = 0 then (if bt427.2 = 0 then (if bt423.1.toList = t419.toList then (if bt425.1 = true then (if (t421.size : Int) = (wrap64 ((t419.size : Int) + t420)) then (foghornlaw19_ReedBack.j0 k t420 a2 a3 bt427.1 ((bt427.1.length : Int) != t420)) else (foghornlaw19_ReedBack.j0 k t420 a2 a3 bt427.1 true)) else (foghornlaw19_ReedBack.j0 k t420 a2 a3 bt427.1 true)) else (foghornlaw19_ReedBack.j0 k t420 a2 a3 bt427.1 true)) else (foghornlaw19_ReedBack.j0 k t420 a2 a3 bt427.1 true)) else (foghornlaw19_ReedBack.j0 k t420 a2 a3 bt427.1 true)) else (foghornlaw19_ReedBack.j0 k t420 a2 a3 bt427.1 true)) else (foghornlaw19_ReedBack.j0 k t420 a2 a3 bt427.1 true))))) = some r := H
    have A8 := Aside0.mk A80
    clear A80
    replace H := Option.bind_eq_some_iff.mp H
    obtain ⟨⟨t423, t424⟩, A90, H⟩ := H
    replace H : ((reed_Whole.f k t421 t420).bind fun bt425 => ((reed_Syndromes.f k t421 t420).bind fun bt427 => (if t422 = 0 then (if t424 = 0 then (if bt425.2 = 0 then (if bt427.2 = 0 then (if t423.toList = t419.toList then (if bt425.1 = true then (if (t421.size : Int) = (wrap64 ((t419.size : Int) + t420)) then (foghornlaw19_ReedBack.j0 k t420 a2 a3 bt427.1 ((bt427.1.length : Int) != t420)) else (foghornlaw19_ReedBack.j0 k t420 a2 a3 bt427.1 true)) else (foghornlaw19_ReedBack.j0 k t420 a2 a3 bt427.1 true)) else (foghornlaw19_ReedBack.j0 k t420 a2 a3 bt427.1 true)) else (foghornlaw19_ReedBack.j0 k t420 a2 a3 bt427.1 true)) else (foghornlaw19_ReedBack.j0 k t420 a2 a3 bt427.1 true)) else (foghornlaw19_ReedBack.j0 k t420 a2 a3 bt427.1 true)) else (foghornlaw19_ReedBack.j0 k t420 a2 a3 bt427.1 true)))) = some r := H
    have A9 := Aside0.mk A90
    clear A90
    replace H := Option.bind_eq_some_iff.mp H
    obtain ⟨⟨t425, t426⟩, A100, H⟩ := H
    replace H : ((reed_Syndromes.f k t421 t420).bind fun bt427 => (if t422 = 0 then (if t424 = 0 then (if t426 = 0 then (if bt427.2 = 0 then (if t423.toList = t419.toList then (if t425 = true then (if (t421.size : Int) = (wrap64 ((t419.size : Int) + t420)) then (foghornlaw19_ReedBack.j0 k t420 a2 a3 bt427.1 ((bt427.1.length : Int) != t420)) else (foghornlaw19_ReedBack.j0 k t420 a2 a3 bt427.1 true)) else (foghornlaw19_ReedBack.j0 k t420 a2 a3 bt427.1 true)) else (foghornlaw19_ReedBack.j0 k t420 a2 a3 bt427.1 true)) else (foghornlaw19_ReedBack.j0 k t420 a2 a3 bt427.1 true)) else (foghornlaw19_ReedBack.j0 k t420 a2 a3 bt427.1 true)) else (foghornlaw19_ReedBack.j0 k t420 a2 a3 bt427.1 true)) else (foghornlaw19_ReedBack.j0 k t420 a2 a3 bt427.1 true))) = some r := H
    have A10 := Aside0.mk A100
    clear A100
    replace H := Option.bind_eq_some_iff.mp H
    obtain ⟨⟨t427, t428⟩, A110, H⟩ := H
    replace H : (if t422 = 0 then (if t424 = 0 then (if t426 = 0 then (if t428 = 0 then (if t423.toList = t419.toList then (if t425 = true then (if (t421.size : Int) = (wrap64 ((t419.size : Int) + t420)) then (foghornlaw19_ReedBack.j0 k t420 a2 a3 t427 ((t427.length : Int) != t420)) else (foghornlaw19_ReedBack.j0 k t420 a2 a3 t427 true)) else (foghornlaw19_ReedBack.j0 k t420 a2 a3 t427 true)) else (foghornlaw19_ReedBack.j0 k t420 a2 a3 t427 true)) else (foghornlaw19_ReedBack.j0 k t420 a2 a3 t427 true)) else (foghornlaw19_ReedBack.j0 k t420 a2 a3 t427 true)) else (foghornlaw19_ReedBack.j0 k t420 a2 a3 t427 true)) else (foghornlaw19_ReedBack.j0 k t420 a2 a3 t427 true)) = some r := H
    have A11 := Aside0.mk A110
    clear A110
    have HC12 := Aside0.mk H
    clear H
    go_enter Try.func9, Try.ntmps9
    go_upto_region 8 with (first | ((with_reducible refine gate_callee (f := 17) rfl ?_); refine goesL_ (some 20) rfl rfl Try.func17 (by kernel_rfl) rfl #[] rfl (by (try simp only [List.map_toArray, List.map_cons, List.map_nil]); first | done | rfl | (simp only [List.length_drop, List.length_take]; rfl)) ?_; (with_reducible refine (foghornlaw19_works.calls k  true _ A5.out).mono ?_); rintro e w13 ⟨rfl, hb⟩; refine ⟨_, rfl, ?_⟩; have n0_ := Aside0.mk (below_step (by repeat (first | (with_reducible first | exact HB.out | apply below_alloc | apply pw_below_drewN | apply below_drew1) | exact HB.out)) hb); clear HB; have HB := n0_; clear n0_; (try clear hb); (try clear hb2); (try clear hk); (try clear hi)) | ((with_reducible refine gate_callee (f := 18) rfl ?_); refine goesL_ (some 25) rfl rfl Try.func18 (by kernel_rfl) rfl #[.string a0, .int .i64 a1] rfl (by (try simp only [List.map_toArray, List.map_cons, List.map_nil]); first | done | rfl | (simp only [List.length_drop, List.length_take]; rfl)) ?_; (with_reducible refine (foghornlaw19_fit.calls a0 a1 t419 t420 _ A7.out).mono ?_); rintro e w14 ⟨rfl, hb⟩; refine ⟨_, rfl, ?_⟩; have n0_ := Aside0.mk (below_step (by repeat (first | (with_reducible first | exact HB.out | apply below_alloc | apply pw_below_drewN | apply below_drew1) | exact HB.out)) hb); clear HB; have HB := n0_; clear n0_; (try clear hb); (try clear hb2); (try clear hk); (try clear hi)) | ((with_reducible refine gate_callee (f := 19) rfl ?_); refine goesL_ (some 31) rfl rfl Try.func19 (by kernel_rfl) rfl #[.string t419, .int .i64 t420] rfl (by (try simp only [List.map_toArray, List.map_cons, List.map_nil]); first | done | rfl | (simp only [List.length_drop, List.length_take]; rfl)) ?_; (with_reducible refine (reed_Encode.calls k t419 t420 t421 t422 _ A8.out).mono ?_); rintro e w15 ⟨rfl, hb⟩; refine ⟨_, rfl, ?_⟩; have n0_ := Aside0.mk (below_step (by repeat (first | (with_reducible first | exact HB.out | apply below_alloc | apply pw_below_drewN | apply below_drew1) | exact HB.out)) hb); clear HB; have HB := n0_; clear n0_; (try clear hb); (try clear hb2); (try clear hk); (try clear hi)) | ((with_reducible refine gate_callee (f := 27) rfl ?_); refine goesL_ (some 37) rfl rfl Try.func27 (by kernel_rfl) rfl #[.string t421, .int .i64 t420] rfl (by (try simp only [List.map_toArray, List.map_cons, List.map_nil]); first | done | rfl | (simp only [List.length_drop, List.length_take]; rfl)) ?_; (with_reducible refine (reed_Data.calls k t421 t420 t423 t424 _ A9.out).mono ?_); rintro e w16 ⟨rfl, hb⟩; refine ⟨_, rfl, ?_⟩; have n0_ := Aside0.mk (below_step (by repeat (first | (with_reducible first | exact HB.out | apply below_alloc | apply pw_below_drewN | apply below_drew1) | exact HB.out)) hb); clear HB; have HB := n0_; clear n0_; (try clear hb); (try clear hb2); (try clear hk); (try clear hi)) | ((with_reducible refine gate_callee (f := 21) rfl ?_); refine goesL_ (some 43) rfl rfl Try.func21 (by kernel_rfl) rfl #[.string t421, .int .i64 t420] rfl (by (try simp only [List.map_toArray, List.map_cons, List.map_nil]); first | done | rfl | (simp only [List.length_drop, List.length_take]; rfl)) ?_; (with_reducible refine (reed_Whole.calls k t421 t420 t425 t426 _ A10.out).mono ?_); rintro e w17 ⟨rfl, hb⟩; refine ⟨_, rfl, ?_⟩; have n0_ := Aside0.mk (below_step (by repeat (first | (with_reducible first | exact HB.out | apply below_alloc | apply pw_below_drewN | apply below_drew1) | exact HB.out)) hb); clear HB; have HB := n0_; clear n0_; (try clear hb); (try clear hb2); (try clear hk); (try clear hi)) | ((with_reducible refine gate_callee (f := 22) rfl ?_); refine goesL_ (some 49) rfl rfl Try.func22 (by kernel_rfl) rfl #[.string t421, .int .i64 t420] rfl (by (try simp only [List.map_toArray, List.map_cons, List.map_nil]); first | done | rfl | (simp only [List.length_drop, List.length_take]; rfl)) ?_; (with_reducible refine (reed_Syndromes.calls k t421 t420 t427 t428 _ A11.out).mono ?_); rintro e w18 ⟨v429, rfl, ho0, hb⟩; refine ⟨_, rfl, ?_⟩; have n0_ := Aside0.mk (Kd.R_lower ho0 (below_size (by repeat (first | (with_reducible first | exact HB.out | apply below_alloc | apply pw_below_drewN | apply below_drew1) | exact HB.out)))); have n1_ := Aside0.mk (below_step (by repeat (first | (with_reducible first | exact HB.out | apply below_alloc | apply pw_below_drewN | apply below_drew1) | exact HB.out)) hb); clear HB; have HO430 := n0_; have HB := n1_; clear n0_ n1_; (try clear hb); (try clear hb2); (try clear hk); (try clear hi); (try clear ho0)))
    (try simp only [Act.put, List.setIfInBounds_toArray, List.set_cons_zero, List.set_cons_succ])
    go_cut [89] (fun v89 wc => ∃ (kq : Nat) (x89_11 : Bool), v89 = .bool x89_11 ∧ Aside0 (foghornlaw19_ReedBack.j0 kq t420 a2 a3 t427 x89_11 = some r) ∧ Aside0 (kq ≤ k) ∧ Aside0 (Kd.R (Kd.int .u8) 5 wc w.heap.size (fun _ => True) v429 t427) ∧ Aside0 (Below w.heap.size w wc))
    case first =>
      have H := HC12.out
      clear HC12
      by_cases c19 : t422 = 0
      · rw [if_pos c19] at H
        have c19b0 : (t422 == 0) = true := beq_iff_eq.mpr c19
        have c19b1 : (t422 != 0) = false := bne_eq_false_iff_eq.mpr c19
        clear c19
        (first | rw [c19b0] | (simp only [i64_w, i32_w]; rw [c19b0]) | skip)
        by_cases c20 : t424 = 0
        · rw [if_pos c20] at H
          have c20b0 : (t424 == 0) = true := beq_iff_eq.mpr c20
          have c20b1 : (t424 != 0) = false := bne_eq_false_iff_eq.mpr c20
          clear c20
          by_cases c21 : t426 = 0
          · rw [if_pos c21] at H
            have c21b0 : (t426 == 0) = true := beq_iff_eq.mpr c21
            have c21b1 : (t426 != 0) = false := bne_eq_false_iff_eq.mpr c21
            clear c21
            by_cases c22 : t428 = 0
            · rw [if_pos c22] at H
              have c22b0 : (t428 == 0) = true := beq_iff_eq.mpr c22
              have c22b1 : (t428 != 0) = false := bne_eq_false_iff_eq.mpr c22
              clear c22
              by_cases c23 : t423.toList = t419.toList
              · rw [if_pos c23] at H
                have c23b0 : (t423.toList == t419.toList) = true := beq_iff_eq.mpr c23
                have c23b1 : (t423.toList != t419.toList) = false := bne_eq_false_iff_eq.mpr c23
                clear c23
                by_cases c24 : t425 = true
                · subst c24
                  have H1 : (if (t421.size : Int) = (wrap64 ((t419.size : Int) + t420)) then (foghornlaw19_ReedBack.j0 k t420 a2 a3 t427 ((t427.length : Int) != t420)) else (foghornlaw19_ReedBack.j0 k t420 a2 a3 t427 true)) = some r := by rw [if_pos rfl] at H; exact H
                  clear H
                  have H := H1
                  clear H1
                  by_cases c25 : (t421.size : Int) = (wrap64 ((t419.size : Int) + t420))
                  · rw [if_pos c25] at H
                    have c25b0 : ((t421.size : Int) == (wrap64 ((t419.size : Int) + t420))) = true := beq_iff_eq.mpr c25
                    have c25b1 : ((t421.size : Int) != (wrap64 ((t419.size : Int) + t420))) = false := bne_eq_false_iff_eq.mpr c25
                    clear c25
                    as_aux_lemma =>
                      have H' := Aside0.mk H
                      clear H
                      obtain ⟨Ao26, co26, eo26⟩ := Kd.R_slice HO430.out
                      subst eo26
                      go_wp2
                      go_meet
                      case rel => exact ⟨_, (((t427.length : Int) != t420)), (by first | rfl | (simp; done) | (simp [*]; done)), H', ⟨by first | omega | exact Nat.le_refl _⟩, ⟨by (with_reducible repeat (first | apply Kd.R_alloc | apply Kd.R_drewN | apply Kd.R_drew)); exact HO430.out⟩, ⟨by repeat (first | (with_reducible first | exact HB.out | apply below_alloc | apply pw_below_drewN | apply below_drew1) | exact HB.out)⟩⟩
                  · rw [if_neg c25] at H
                    have c25b0 : ((t421.size : Int) == (wrap64 ((t419.size : Int) + t420))) = false := beq_eq_false_iff_ne.mpr c25
                    have c25b1 : ((t421.size : Int) != (wrap64 ((t419.size : Int) + t420))) = true := bne_iff_ne.mpr c25
                    as_aux_lemma =>
                      have H' := Aside0.mk H
                      clear H
                      go_wp2
                      go_meet
                      case rel => exact ⟨_, (true), (by first | rfl | (simp; done) | (simp [*]; done)), H', ⟨by first | omega | exact Nat.le_refl _⟩, ⟨by (with_reducible repeat (first | apply Kd.R_alloc | apply Kd.R_drewN | apply Kd.R_drew)); exact HO430.out⟩, ⟨by repeat (first | (with_reducible first | exact HB.out | apply below_alloc | apply pw_below_drewN | apply below_drew1) | exact HB.out)⟩⟩
                · replace c24 := Bool.eq_false_iff.mpr c24
                  subst c24
                  have H1 : (foghornlaw19_ReedBack.j0 k t420 a2 a3 t427 true) = some r := by rw [if_neg (show ¬ (false = true) by decide)] at H; exact H
                  clear H
                  have H := H1
                  clear H1
                  as_aux_lemma =>
                    have H' := Aside0.mk H
                    clear H
                    go_wp2
                    go_meet
                    case rel => exact ⟨_, (true), (by first | rfl | (simp; done) | (simp [*]; done)), H', ⟨by first | omega | exact Nat.le_refl _⟩, ⟨by (with_reducible repeat (first | apply Kd.R_alloc | apply Kd.R_drewN | apply Kd.R_drew)); exact HO430.out⟩, ⟨by repeat (first | (with_reducible first | exact HB.out | apply below_alloc | apply pw_below_drewN | apply below_drew1) | exact HB.out)⟩⟩
              · rw [if_neg c23] at H
                have c23b0 : (t423.toList == t419.toList) = false := beq_eq_false_iff_ne.mpr c23
                have c23b1 : (t423.toList != t419.toList) = true := bne_iff_ne.mpr c23
                as_aux_lemma =>
                  have H' := Aside0.mk H
                  clear H
                  go_wp2
                  go_meet
                  case rel => exact ⟨_, (true), (by first | rfl | (simp; done) | (simp [*]; done)), H', ⟨by first | omega | exact Nat.le_refl _⟩, ⟨by (with_reducible repeat (first | apply Kd.R_alloc | apply Kd.R_drewN | apply Kd.R_drew)); exact HO430.out⟩, ⟨by repeat (first | (with_reducible first | exact HB.out | apply below_alloc | apply pw_below_drewN | apply below_drew1) | exact HB.out)⟩⟩
            · rw [if_neg c22] at H
              have c22b0 : (t428 == 0) = false := beq_eq_false_iff_ne.mpr c22
              have c22b1 : (t428 != 0) = true := bne_iff_ne.mpr c22
              as_aux_lemma =>
                have H' := Aside0.mk H
                clear H
                go_wp2
                go_meet
                case rel => exact ⟨_, (true), (by first | rfl | (simp; done) | (simp [*]; done)), H', ⟨by first | omega | exact Nat.le_refl _⟩, ⟨by (with_reducible repeat (first | apply Kd.R_alloc | apply Kd.R_drewN | apply Kd.R_drew)); exact HO430.out⟩, ⟨by repeat (first | (with_reducible first | exact HB.out | apply below_alloc | apply pw_below_drewN | apply below_drew1) | exact HB.out)⟩⟩
          · rw [if_neg c21] at H
            have c21b0 : (t426 == 0) = false := beq_eq_false_iff_ne.mpr c21
            have c21b1 : (t426 != 0) = true := bne_iff_ne.mpr c21
            as_aux_lemma =>
              have H' := Aside0.mk H
              clear H
              go_wp2
              go_meet
              case rel => exact ⟨_, (true), (by first | rfl | (simp; done) | (simp [*]; done)), H', ⟨by first | omega | exact Nat.le_refl _⟩, ⟨by (with_reducible repeat (first | apply Kd.R_alloc | apply Kd.R_drewN | apply Kd.R_drew)); exact HO430.out⟩, ⟨by repeat (first | (with_reducible first | exact HB.out | apply below_alloc | apply pw_below_drewN | apply below_drew1) | exact HB.out)⟩⟩
        · rw [if_neg c20] at H
          have c20b0 : (t424 == 0) = false := beq_eq_false_iff_ne.mpr c20
          have c20b1 : (t424 != 0) = true := bne_iff_ne.mpr c20
          as_aux_lemma =>
            have H' := Aside0.mk H
            clear H
            go_wp2
            go_meet
            case rel => exact ⟨_, (true), (by first | rfl | (simp; done) | (simp [*]; done)), H', ⟨by first | omega | exact Nat.le_refl _⟩, ⟨by (with_reducible repeat (first | apply Kd.R_alloc | apply Kd.R_drewN | apply Kd.R_drew)); exact HO430.out⟩, ⟨by repeat (first | (with_reducible first | exact HB.out | apply below_alloc | apply pw_below_drewN | apply below_drew1) | exact HB.out)⟩⟩
      · rw [if_neg c19] at H
        have c19b0 : (t422 == 0) = false := beq_eq_false_iff_ne.mpr c19
        have c19b1 : (t422 != 0) = true := bne_iff_ne.mpr c19
        (first | rw [c19b0] | (simp only [i64_w, i32_w]; rw [c19b0]) | skip)
        as_aux_lemma =>
          have H' := Aside0.mk H
          clear H
          go_wp2
          go_meet
          case rel => exact ⟨_, (true), (by first | rfl | (simp; done) | (simp [*]; done)), H', ⟨by first | omega | exact Nat.le_refl _⟩, ⟨by (with_reducible repeat (first | apply Kd.R_alloc | apply Kd.R_drewN | apply Kd.R_drew)); exact HO430.out⟩, ⟨by repeat (first | (with_reducible first | exact HB.out | apply below_alloc | apply pw_below_drewN | apply below_drew1) | exact HB.out)⟩⟩
    case rest =>
      clear HC12
      try clear c1
      try clear c2
      try clear p2
      try clear c6
      try clear p6
      try clear c9
      try clear c17
      try clear c18
      try clear c19
      try clear c19b0
      try clear c19b1
      try clear c20
      try clear c20b0
      try clear c20b1
      try clear c21
      try clear c21b0
      try clear c21b1
      try clear c22
      try clear c22b0
      try clear c22b1
      try clear c23
      try clear c23b0
      try clear c23b1
      try clear c24
      try clear c25
      try clear c25b0
      try clear c25b1
      obtain ⟨kq, x89_11, rfl, HA, HJ11, HO_15, HB⟩ := hcut
      cases kq with
      | zero => exact absurd HA.out (by simp [foghornlaw19_ReedBack.j0])
      | succ kj11 =>
        have H := HA.out
        clear HA
        simp only [foghornlaw19_ReedBack.j0] at H
        by_cases c27 : x89_11 = true
        · subst c27
          have H1 : (some false) = some r := by rw [if_pos rfl] at H; exact H
          clear H
          have H := H1
          clear H1
          as_aux_lemma =>
            exact absurd ((Option.some.inj H).trans HQ_.out) (by decide)
        · replace c27 := Bool.eq_false_iff.mpr c27
          subst c27
          have H1 : (foghornlaw19_ReedBack.l0 kj11 t420 a2 a3 t427 0) = some r := by rw [if_neg (show ¬ (false = true) by decide)] at H; exact H
          clear H
          have H := H1
          clear H1
          have H' := Aside0.mk H
          clear H
          go_wp2
          go_loopg [17] kj11 (fun kq v17 w' => ∃ (x17_2 : Int), v17 = .int .i64 x17_2 ∧ Aside0 (foghornlaw19_ReedBack.l0 kq t420 a2 a3 t427 x17_2 = some r) ∧ Aside0 (kq ≤ kj11) ∧ Aside0 (Kd.R (Kd.int .u8) 5 w' w.heap.size (fun _ => True) v429 t427) ∧ Aside0 (Below w.heap.size w w'))
          case atStart => exact ⟨(0), (by first | rfl | (simp; done) | (simp [*]; done)), H', ⟨Nat.le_refl _⟩, ⟨by (with_reducible repeat (first | apply Kd.R_alloc | apply Kd.R_drewN | apply Kd.R_drew)); exact HO_15.out⟩, ⟨by repeat (first | (with_reducible first | exact HB.out | apply below_alloc | apply pw_below_drewN | apply below_drew1) | exact HB.out)⟩⟩
          case round =>
            clear H'
            try clear c1
            try clear c2
            try clear p2
            try clear c6
            try clear p6
            try clear c9
            try clear c17
            try clear c18
            try clear c19
            try clear c19b0
            try clear c19b1
            try clear c20
            try clear c20b0
            try clear c20b1
            try clear c21
            try clear c21b0
            try clear c21b1
            try clear c22
            try clear c22b0
            try clear c22b1
            try clear c23
            try clear c23b0
            try clear c23b1
            try clear c24
            try clear c25
            try clear c25b0
            try clear c25b1
            try clear c27
            try clear p2
            try clear p6
            obtain ⟨x17_2, rfl, HA, HK2, HO_15, HB⟩ := hrel
            cases gk with
            | zero => exact absurd HA.out (by simp [foghornlaw19_ReedBack.l0])
            | succ k2 =>
              have H := HA.out
              clear HA
              simp only [foghornlaw19_ReedBack.l0] at H
              by_cases c28 : x17_2 < (t427.length : Int)
              · rw [if_pos c28] at H
                have c28b0 : decide (x17_2 < (t427.length : Int)) = true := decide_eq_true c28
                clear c28
                by_cases c29 : 0 ≤ x17_2
                · rw [if_pos c29] at H
                  have c29b0 : decide (0 ≤ x17_2) = true := decide_eq_true c29
                  clear c29
                  by_cases c30 : (rd t427 x17_2) = 0
                  · rw [if_pos c30] at H
                    have c30b0 : ((rd t427 x17_2) == 0) = true := beq_iff_eq.mpr c30
                    have c30b1 : ((rd t427 x17_2) != 0) = false := bne_eq_false_iff_eq.mpr c30
                    clear c30
                    as_aux_lemma =>
                      have H' := Aside0.mk H
                      clear H
                      obtain ⟨Ao31, co31, eo31⟩ := Kd.R_slice HO_15.out
                      subst eo31
                      have p431 : 0 ≤ (x17_2 : Int) := of_decide_eq_true (by first | (with_reducible assumption) | assumption)
                      have q431 : x17_2 < (t427.length : Int) := of_decide_eq_true (by first | (with_reducible assumption) | assumption)
                      obtain ⟨ad431, e431, hx431_0⟩ := Kd.at_int (Kd.R_reads' HO_15.out).2.2 x17_2 p431 q431
                      cases e431
                      replace p431 := eq_true p431
                      replace q431 := eq_true q431
                      go_wp2
                      first | go_roundg k2 | (simp only [add_plain] at *; go_roundg k2)
                      case measure => have := HJ11.out; have := HK2.out; omega
                      case rel => exact ⟨(wrap64 (x17_2 + 1)), (by first | rfl | (simp; done) | (simp [*]; done)), H', ⟨by have := HJ11.out; have := HK2.out; omega⟩, ⟨by (with_reducible repeat (first | apply Kd.R_alloc | apply Kd.R_drewN | apply Kd.R_drew)); exact HO_15.out⟩, ⟨by repeat (first | (with_reducible first | exact HB.out | apply below_alloc | apply pw_below_drewN | apply below_drew1) | exact HB.out)⟩⟩
                  · rw [if_neg c30] at H
                    have c30b0 : ((rd t427 x17_2) == 0) = false := beq_eq_false_iff_ne.mpr c30
                    have c30b1 : ((rd t427 x17_2) != 0) = true := bne_iff_ne.mpr c30
                    as_aux_lemma =>
                      exact absurd ((Option.some.inj H).trans HQ_.out) (by decide)
                · rw [if_neg c29] at H
                  exact absurd H (by simp)
              · rw [if_neg c28] at H
                have c28b0 : decide (x17_2 < (t427.length : Int)) = false := decide_eq_false c28
                clear c28
                by_cases c32 : (IntKind.u64.wrap (wrap64 (255 - t420))) = 0
                · rw [if_pos c32] at H
                  exact absurd H (by simp)
                · rw [if_neg c32] at H
                  have c32b0 : ((IntKind.u64.wrap (wrap64 (255 - t420))) == 0) = false := beq_eq_false_iff_ne.mpr c32
                  have c32b1 : ((IntKind.u64.wrap (wrap64 (255 - t420))) != 0) = true := bne_iff_ne.mpr c32
                  obtain ⟨ji33, hji33⟩ : ∃ j_ : Int, (mn (a2.size : Int) 3000) = j_ := ⟨_, rfl⟩
                  replace H : (if 0 ≤ (ji33) then (if (ji33) ≤ (a2.size : Int) then ((reed_Words.f k2 (a2.extract 0 ((ji33) : Int).toNat) (wrap64 ((wrap64 (t420 + 1)) + (wrap64 (Int.tmod (IntKind.u64.wrap (a3)) (IntKind.u64.wrap (wrap64 (255 - t420))))))) t420).bind fun bt432 => ((reed_Message.f k2 bt432.1 t420).bind fun bt436 => (if bt432.2 = 0 then (if bt436.2 = 0 then (if bt436.1.toList = (a2.extract 0 ((ji33) : Int).toNat).toList then (if (wrap64 ((wrap64 ((wrap64 (t420 + 1)) + (wrap64 (Int.tmod (IntKind.u64.wrap (a3)) (IntKind.u64.wrap (wrap64 (255 - t420))))))) - t420)) = 0 then (none) else (some ((bt432.1.length : Int) == (wrap64 (Int.tdiv (wrap64 ((wrap64 ((wrap64 (((a2.extract 0 ((ji33) : Int).toNat).size : Int) + (wrap64 ((wrap64 (t420 + 1)) + (wrap64 (Int.tmod (IntKind.u64.wrap (a3)) (IntKind.u64.wrap (wrap64 (255 - t420))))))))) - t420)) - 1)) (wrap64 ((wrap64 ((wrap64 (t420 + 1)) + (wrap64 (Int.tmod (IntKind.u64.wrap (a3)) (IntKind.u64.wrap (wrap64 (255 - t420))))))) - t420))))))) else (some false)) else (some false)) else (some false)))) else (none)) else (none)) = some r := by first | (rw [hji33] at H; exact H) | (simp only [hji33] at H ⊢; exact H)
                  have hji33_ : (if 3000 < (a2.size : Int) then 3000 else (a2.size : Int)) = ji33 := hji33
                  by_cases c34 : 0 ≤ (ji33)
                  · rw [if_pos c34] at H
                    have c34b0 := eq_true c34
                    have c34b1 : decide (0 ≤ (ji33)) = true := decide_eq_true c34
                    clear c34
                    by_cases c35 : (ji33) ≤ (a2.size : Int)
                    · rw [if_pos c35] at H
                      have c35b0 := eq_true c35
                      have c35b1 : decide ((ji33) ≤ (a2.size : Int)) = true := decide_eq_true c35
                      clear c35
                      replace H := Option.bind_eq_some_iff.mp H
                      obtain ⟨⟨t432, t433⟩, A360, H⟩ := H
                      replace H : ((reed_Message.f k2 t432 t420).bind fun bt436 => (if t433 = 0 then (if bt436.2 = 0 then (if bt436.1.toList = (a2.extract 0 ((ji33) : Int).toNat).toList then (if (wrap64 ((wrap64 ((wrap64 (t420 + 1)) + (wrap64 (Int.tmod (IntKind.u64.wrap (a3)) (IntKind.u64.wrap (wrap64 (255 - t420))))))) - t420)) = 0 then (none) else (some ((t432.length : Int) == (wrap64 (Int.tdiv (wrap64 ((wrap64 ((wrap64 (((a2.extract 0 ((ji33) : Int).toNat).size : Int) + (wrap64 ((wrap64 (t420 + 1)) + (wrap64 (Int.tmod (IntKind.u64.wrap (a3)) (IntKind.u64.wrap (wrap64 (255 - t420))))))))) - t420)) - 1)) (wrap64 ((wrap64 ((wrap64 (t420 + 1)) + (wrap64 (Int.tmod (IntKind.u64.wrap (a3)) (IntKind.u64.wrap (wrap64 (255 - t420))))))) - t420))))))) else (some false)) else (some false)) else (some false))) = some r := H
                      have A36 := Aside0.mk A360
                      clear A360
                      replace H := Option.bind_eq_some_iff.mp H
                      obtain ⟨⟨t436, t437⟩, A370, H⟩ := H
                      replace H : (if t433 = 0 then (if t437 = 0 then (if t436.toList = (a2.extract 0 ((ji33) : Int).toNat).toList then (if (wrap64 ((wrap64 ((wrap64 (t420 + 1)) + (wrap64 (Int.tmod (IntKind.u64.wrap (a3)) (IntKind.u64.wrap (wrap64 (255 - t420))))))) - t420)) = 0 then (none) else (some ((t432.length : Int) == (wrap64 (Int.tdiv (wrap64 ((wrap64 ((wrap64 (((a2.extract 0 ((ji33) : Int).toNat).size : Int) + (wrap64 ((wrap64 (t420 + 1)) + (wrap64 (Int.tmod (IntKind.u64.wrap (a3)) (IntKind.u64.wrap (wrap64 (255 - t420))))))))) - t420)) - 1)) (wrap64 ((wrap64 ((wrap64 (t420 + 1)) + (wrap64 (Int.tmod (IntKind.u64.wrap (a3)) (IntKind.u64.wrap (wrap64 (255 - t420))))))) - t420))))))) else (some false)) else (some false)) else (some false)) = some r := H
                      have A37 := Aside0.mk A370
                      clear A370
                      by_cases c38 : t433 = 0
                      · rw [if_pos c38] at H
                        have c38b0 : (t433 == 0) = true := beq_iff_eq.mpr c38
                        have c38b1 : (t433 != 0) = false := bne_eq_false_iff_eq.mpr c38
                        clear c38
                        by_cases c39 : t437 = 0
                        · rw [if_pos c39] at H
                          have c39b0 : (t437 == 0) = true := beq_iff_eq.mpr c39
                          have c39b1 : (t437 != 0) = false := bne_eq_false_iff_eq.mpr c39
                          clear c39
                          by_cases c40 : t436.toList = (a2.extract 0 ((ji33) : Int).toNat).toList
                          · rw [if_pos c40] at H
                            have c40b0 : (t436.toList == (a2.extract 0 ((ji33) : Int).toNat).toList) = true := beq_iff_eq.mpr c40
                            have c40b1 : (t436.toList != (a2.extract 0 ((ji33) : Int).toNat).toList) = false := bne_eq_false_iff_eq.mpr c40
                            clear c40
                            by_cases c41 : (wrap64 ((wrap64 ((wrap64 (t420 + 1)) + (wrap64 (Int.tmod (IntKind.u64.wrap (a3)) (IntKind.u64.wrap (wrap64 (255 - t420))))))) - t420)) = 0
                            · rw [if_pos c41] at H
                              exact absurd H (by simp)
                            · rw [if_neg c41] at H
                              have c41b0 : ((wrap64 ((wrap64 ((wrap64 (t420 + 1)) + (wrap64 (Int.tmod (IntKind.u64.wrap (a3)) (IntKind.u64.wrap (wrap64 (255 - t420))))))) - t420)) == 0) = false := beq_eq_false_iff_ne.mpr c41
                              have c41b1 : ((wrap64 ((wrap64 ((wrap64 (t420 + 1)) + (wrap64 (Int.tmod (IntKind.u64.wrap (a3)) (IntKind.u64.wrap (wrap64 (255 - t420))))))) - t420)) != 0) = true := bne_iff_ne.mpr c41
                              as_aux_lemma =>
                                obtain rfl := Option.some.inj H
                                obtain ⟨Ao42, co42, eo42⟩ := Kd.R_slice HO_15.out
                                subst eo42
                                go_wp2_with (first | ((with_reducible refine gate_callee (f := 31) rfl ?_); refine goesL_ (some 120) rfl rfl Try.func31 (by kernel_rfl) rfl #[.string (a2.extract 0 ((ji33) : Int).toNat), .int .i64 (wrap64 ((wrap64 (t420 + 1)) + (wrap64 (Int.tmod (IntKind.u64.wrap (a3)) (IntKind.u64.wrap (wrap64 (255 - t420))))))), .int .i64 t420] rfl (by (try simp only [List.map_toArray, List.map_cons, List.map_nil]); first | done | (simp only [hji33]; rfl) | rfl | (simp only [List.length_drop, List.length_take]; rfl)) ?_; (with_reducible refine (reed_Words.calls k2 (a2.extract 0 ((ji33) : Int).toNat) (wrap64 ((wrap64 (t420 + 1)) + (wrap64 (Int.tmod (IntKind.u64.wrap (a3)) (IntKind.u64.wrap (wrap64 (255 - t420))))))) t420 t432 t433 _ A36.out).mono ?_); rintro e w43 ⟨v434, rfl, ho0, hb⟩; refine ⟨_, rfl, ?_⟩; have n0_ := Aside0.mk (Kd.R_below (by (with_reducible repeat (first | apply Kd.R_alloc | apply Kd.R_drewN | apply Kd.R_drew)); exact HO_15.out) hb); have n1_ := Aside0.mk (Kd.R_lower ho0 (below_size (by repeat (first | (with_reducible first | exact HB.out | apply below_alloc | apply pw_below_drewN | apply below_drew1) | exact HB.out)))); have n2_ := Aside0.mk (below_step (by repeat (first | (with_reducible first | exact HB.out | apply below_alloc | apply pw_below_drewN | apply below_drew1) | exact HB.out)) hb); clear HO_15; clear HB; have HO_15 := n0_; have HO435 := n1_; have HB := n2_; clear n0_ n1_ n2_; (try clear hb); (try clear hb2); (try clear hk); (try clear hi); (try clear ho0); obtain ⟨Ao44, co44, eo44⟩ := Kd.R_slice HO435.out; subst eo44) | ((with_reducible refine gate_callee (f := 32) rfl ?_); refine goesL_ (some 126) rfl rfl Try.func32 (by kernel_rfl) rfl #[.slice Ao44 t432.length co44, .int .i64 t420] rfl (by (try simp only [List.map_toArray, List.map_cons, List.map_nil]); first | done | rfl | (simp only [List.length_drop, List.length_take]; rfl)) ?_; (with_reducible refine (reed_Message.calls k2 _ _ t432 t420 t436 t437 _ ?side1 ?side2 A37.out).mono ?_); (case side1 => repeat (first | exact (Kd.R_reads' HO435.out).2.2 | (with_reducible refine Kd.C_alloc ?_ _) | (with_reducible refine Kd.C_drewN ?_ _) | (with_reducible refine Kd.C_drew ?_))); (case side2 => exact (Kd.R_reads' HO435.out).2.1); rintro e w45 ⟨rfl, hb⟩; refine ⟨_, rfl, ?_⟩; have n0_ := Aside0.mk (Kd.R_below (by (with_reducible repeat (first | apply Kd.R_alloc | apply Kd.R_drewN | apply Kd.R_drew)); exact HO_15.out) hb); have n1_ := Aside0.mk (Kd.R_below (by (with_reducible repeat (first | apply Kd.R_alloc | apply Kd.R_drewN | apply Kd.R_drew)); exact HO435.out) hb); have n2_ := Aside0.mk (below_step (by repeat (first | (with_reducible first | exact HB.out | apply below_alloc | apply pw_below_drewN | apply below_drew1) | exact HB.out)) hb); clear HO_15; clear HO435; clear HB; have HO_15 := n0_; have HO435 := n1_; have HB := n2_; clear n0_ n1_ n2_; (try clear hb); (try clear hb2); (try clear hk); (try clear hi)))
                                go_ret
                                exact ⟨by first | rfl | (simp [errW_none, errW_some] <;> rfl) | (simp only [← hji33]; first | rfl | (simp [errW_none, errW_some] <;> rfl)) | (simp [*, errW_none, errW_some] <;> rfl), by repeat (first | (with_reducible first | exact HB.out | apply below_alloc | apply pw_below_drewN | apply below_drew1) | exact HB.out)⟩
                          · rw [if_neg c40] at H
                            have c40b0 : (t436.toList == (a2.extract 0 ((ji33) : Int).toNat).toList) = false := beq_eq_false_iff_ne.mpr c40
                            have c40b1 : (t436.toList != (a2.extract 0 ((ji33) : Int).toNat).toList) = true := bne_iff_ne.mpr c40
                            as_aux_lemma =>
                              exact absurd ((Option.some.inj H).trans HQ_.out) (by decide)
                        · rw [if_neg c39] at H
                          have c39b0 : (t437 == 0) = false := beq_eq_false_iff_ne.mpr c39
                          have c39b1 : (t437 != 0) = true := bne_iff_ne.mpr c39
                          as_aux_lemma =>
                            exact absurd ((Option.some.inj H).trans HQ_.out) (by decide)
                      · rw [if_neg c38] at H
                        have c38b0 : (t433 == 0) = false := beq_eq_false_iff_ne.mpr c38
                        have c38b1 : (t433 != 0) = true := bne_iff_ne.mpr c38
                        as_aux_lemma =>
                          exact absurd ((Option.some.inj H).trans HQ_.out) (by decide)
                    · rw [if_neg c35] at H
                      exact absurd H (by simp)
                  · rw [if_neg c34] at H
                    exact absurd H (by simp)
  · replace c6 := Bool.eq_false_iff.mpr c6
    subst c6
    have H1 : (some false) = some r := by rw [if_neg (show ¬ (false = true) by decide)] at H; exact H
    clear H
    have H := H1
    clear H1
    as_aux_lemma =>
      exact absurd ((Option.some.inj H).trans HQ_.out) (by decide)

theorem foghornlaw19_ReedBack.walk (P : foghornlaw19_ReedBack.Pure) (a0 : ByteArray) (a1 : Int) (a2 : ByteArray) (a3 : Int) (w : World) (w0 : a0.size ≤ 140737488351232) (w1 : (Lit.int .i64 a1).wf = true) (w2 : a2.size ≤ 140737488351232) (w3 : (Lit.int .i64 a3).wf = true) :
    Calls Try.prog 9 #[.string a0, .int .i64 a1, .string a2, .int .i64 a3] w fun e w' => e = .returned (.bool true) ∧ Below w.heap.size w w' := by
  obtain ⟨k, h⟩ := P a0 a1 a2 a3 w0 w1 w2 w3
  refine (foghornlaw19_ReedBack.calls k a0 a1 a2 a3 true w h rfl).mono ?_
  rintro e w' ⟨rfl, hd⟩
  exact ⟨rfl, hd⟩

end Go.Proofs.Ytncoakokdajibaa.Q
