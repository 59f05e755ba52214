-- Printed by myprint.py (ours) over the kit's printer, out of the translation.
import Derived.Test.YtmdeldiocaofkaaQ0
import Derived.Test.YtmdeldiocaofkaaFieldRingsF0
import Derived.Test.YtmdeldiocaofkaaFieldRingsQ0
import Derived.Test.YtmdeldiocaofkaaFieldRingsQ1
import Derived.Test.YtmdeldiocaofkaaFieldRingsQ2
import Derived.Test.YtmdeldiocaofkaaFieldRingsQ3
namespace Go.Proofs.Ytmdeldiocaofkaa.Q
open Go.RowKit Go.Proofs.YtmdeldiocaofkaaW.PrintWords Go.Proofs.YtmdeldiocaofkaaW.PrintLast Go.Proofs.YtmdeldiocaofkaaW.PrintMore
attribute [local go_sem] ArrW.ptrOf_slice max2_int min2_int max_two min_two max_three min_three max_four min_four   -- for this text's walks alone
set_option linter.unusedVariables false
set_option linter.unusedSimpArgs false

/-! ### foghornlaw18_FieldRings: function 11 -/
set_option maxHeartbeats 8000000 in
set_option maxRecDepth 100000 in
theorem foghornlaw18_FieldRings.calls (k : Nat) (A0_0 : Option Addr) (c0_0 : Nat) (l0_0 : List Int) (A0_1 : Option Addr) (c0_1 : Nat) (l0_1 : List Int) (A0_2 : Option Addr) (c0_2 : Nat) (l0_2 : List Int) (a0_3 : Int) (r : Bool) (w : World) (hr0_0 : Kd.C (Kd.int .u8) w A0_0 l0_0.length l0_0) (hc0_0 : l0_0.length ≤ c0_0) (hr0_1 : Kd.C (Kd.int .u8) w A0_1 l0_1.length l0_1) (hc0_1 : l0_1.length ≤ c0_1) (hr0_2 : Kd.C (Kd.int .u8) w A0_2 l0_2.length l0_2) (hc0_2 : l0_2.length ≤ c0_2) (h : foghornlaw18_FieldRings.f k l0_0 l0_1 l0_2 a0_3 = some r) (hq_ : r = true) :
    Calls Try.prog 11 #[.agg #[.slice A0_0 l0_0.length c0_0, .slice A0_1 l0_1.length c0_1, .slice A0_2 l0_2.length c0_2, .int .u8 a0_3]] w fun e w' => e = .returned (.bool r) ∧ Below w.heap.size w w' := by
  have HQ_ := Aside0.mk hq_
  clear hq_
  have hu63 := Try.underlying63
  have HR0_0 := Aside0.mk hr0_0
  have HC0_0 := Aside0.mk hc0_0
  clear hr0_0 hc0_0
  have HR0_1 := Aside0.mk hr0_1
  have HC0_1 := Aside0.mk hc0_1
  clear hr0_1 hc0_1
  have HR0_2 := Aside0.mk hr0_2
  have HC0_2 := Aside0.mk hc0_2
  clear hr0_2 hc0_2
  have HB := Aside0.mk (Below.refl w.heap.size w)
  have H : (if 0 ≤ (mn (l0_0.length : Int) 40) then (if (mn (l0_0.length : Int) 40) ≤ (l0_0.length : Int) then (if 0 ≤ (mn (l0_1.length : Int) 40) then (if (mn (l0_1.length : Int) 40) ≤ (l0_1.length : Int) then (if 0 ≤ (mn (l0_2.length : Int) 10) then (if (mn (l0_2.length : Int) 10) ≤ (l0_2.length : Int) then ((field_Sum.f k (l0_0.take ((mn (l0_0.length : Int) 40) : Int).toNat) (l0_1.take ((mn (l0_1.length : Int) 40) : Int).toNat)).bind fun bt592 => ((field_Product.f k (l0_0.take ((mn (l0_0.length : Int) 40) : Int).toNat) (l0_1.take ((mn (l0_1.length : Int) 40) : Int).toNat)).bind fun bt596 => ((field_Sum.f k (l0_0.take ((mn (l0_0.length : Int) 40) : Int).toNat) ([] : List Int)).bind fun bt600 => ((field_Sum.f k (l0_1.take ((mn (l0_1.length : Int) 40) : Int).toNat) ([] : List Int)).bind fun bt604 => (if bt592.2 = 0 then (if bt596.2 = 0 then (if bt600.2 = 0 then (foghornlaw18_FieldRings.j0 k a0_3 (l0_0.take ((mn (l0_0.length : Int) 40) : Int).toNat) (l0_1.take ((mn (l0_1.length : Int) 40) : Int).toNat) (l0_2.take ((mn (l0_2.length : Int) 10) : Int).toNat) bt592.1 bt596.1 bt600.1 bt604.1 (bt604.2 != 0)) else (foghornlaw18_FieldRings.j0 k a0_3 (l0_0.take ((mn (l0_0.length : Int) 40) : Int).toNat) (l0_1.take ((mn (l0_1.length : Int) 40) : Int).toNat) (l0_2.take ((mn (l0_2.length : Int) 10) : Int).toNat) bt592.1 bt596.1 bt600.1 bt604.1 true)) else (foghornlaw18_FieldRings.j0 k a0_3 (l0_0.take ((mn (l0_0.length : Int) 40) : Int).toNat) (l0_1.take ((mn (l0_1.length : Int) 40) : Int).toNat) (l0_2.take ((mn (l0_2.length : Int) 10) : Int).toNat) bt592.1 bt596.1 bt600.1 bt604.1 true)) else (foghornlaw18_FieldRings.j0 k a0_3 (l0_0.take ((mn (l0_0.length : Int) 40) : Int).toNat) (l0_1.take ((mn (l0_1.length : Int) 40) : Int).toNat) (l0_2.take ((mn (l0_2.length : Int) 10) : Int).toNat) bt592.1 bt596.1 bt600.1 bt604.1 true)))))) else (none)) else (none)) else (none)) else (none)) else (none)) else (none)) = some r := h
  clear h
  obtain ⟨ji2, hji2⟩ : ∃ j_ : Int, (mn (l0_0.length : Int) 40) = j_ := ⟨_, rfl⟩
  replace H : (if 0 ≤ (ji2) then (if (ji2) ≤ (l0_0.length : Int) then (if 0 ≤ (mn (l0_1.length : Int) 40) then (if (mn (l0_1.length : Int) 40) ≤ (l0_1.length : Int) then (if 0 ≤ (mn (l0_2.length : Int) 10) then (if (mn (l0_2.length : Int) 10) ≤ (l0_2.length : Int) then ((field_Sum.f k (l0_0.take ((ji2) : Int).toNat) (l0_1.take ((mn (l0_1.length : Int) 40) : Int).toNat)).bind fun bt592 => ((field_Product.f k (l0_0.take ((ji2) : Int).toNat) (l0_1.take ((mn (l0_1.length : Int) 40) : Int).toNat)).bind fun bt596 => ((field_Sum.f k (l0_0.take ((ji2) : Int).toNat) ([] : List Int)).bind fun bt600 => ((field_Sum.f k (l0_1.take ((mn (l0_1.length : Int) 40) : Int).toNat) ([] : List Int)).bind fun bt604 => (if bt592.2 = 0 then (if bt596.2 = 0 then (if bt600.2 = 0 then (foghornlaw18_FieldRings.j0 k a0_3 (l0_0.take ((ji2) : Int).toNat) (l0_1.take ((mn (l0_1.length : Int) 40) : Int).toNat) (l0_2.take ((mn (l0_2.length : Int) 10) : Int).toNat) bt592.1 bt596.1 bt600.1 bt604.1 (bt604.2 != 0)) else (foghornlaw18_FieldRings.j0 k a0_3 (l0_0.take ((ji2) : Int).toNat) (l0_1.take ((mn (l0_1.length : Int) 40) : Int).toNat) (l0_2.take ((mn (l0_2.length : Int) 10) : Int).toNat) bt592.1 bt596.1 bt600.1 bt604.1 true)) else (foghornlaw18_FieldRings.j0 k a0_3 (l0_0.take ((ji2) : Int).toNat) (l0_1.take ((mn (l0_1.length : Int) 40) : Int).toNat) (l0_2.take ((mn (l0_2.length : Int) 10) : Int).toNat) bt592.1 bt596.1 bt600.1 bt604.1 true)) else (foghornlaw18_FieldRings.j0 k a0_3 (l0_0.take ((ji2) : Int).toNat) (l0_1.take ((mn (l0_1.length : Int) 40) : Int).toNat) (l0_2.take ((mn (l0_2.length : Int) 10) : Int).toNat) bt592.1 bt596.1 bt600.1 bt604.1 true)))))) else (none)) else (none)) else (none)) else (none)) else (none)) else (none)) = some r := by first | (rw [hji2] at H; exact H) | (simp only [hji2] at H ⊢; exact H)
  (try (have hji2h : ji2 ≤ 40 := by (rw [← hji2]; unfold mn; (repeat' split) <;> omega)))
  (try (have hji2g : ji2 ≤ 64 := by omega))
  (try (have hji2l : 0 ≤ ji2 := by (rw [← hji2]; unfold mn; (repeat' split) <;> omega)))
  (try (have hji2m : 0 ≤ ji2 := by omega))
  have hji2_ : (if 40 < (l0_0.length : Int) then 40 else (l0_0.length : Int)) = ji2 := hji2
  by_cases c3 : 0 ≤ (ji2)
  · rw [if_pos c3] at H
    have c3b0 := eq_true c3
    have c3b1 : decide (0 ≤ (ji2)) = true := decide_eq_true c3
    clear c3
    by_cases c4 : (ji2) ≤ (l0_0.length : Int)
    · rw [if_pos c4] at H
      have c4b0 := eq_true c4
      have c4b1 : decide ((ji2) ≤ (l0_0.length : Int)) = true := decide_eq_true c4
      clear c4
      obtain ⟨ji5, hji5⟩ : ∃ j_ : Int, (mn (l0_1.length : Int) 40) = j_ := ⟨_, rfl⟩
      replace H : (if 0 ≤ (ji5) then (if (ji5) ≤ (l0_1.length : Int) then (if 0 ≤ (mn (l0_2.length : Int) 10) then (if (mn (l0_2.length : Int) 10) ≤ (l0_2.length : Int) then ((field_Sum.f k (l0_0.take ((ji2) : Int).toNat) (l0_1.take ((ji5) : Int).toNat)).bind fun bt592 => ((field_Product.f k (l0_0.take ((ji2) : Int).toNat) (l0_1.take ((ji5) : Int).toNat)).bind fun bt596 => ((field_Sum.f k (l0_0.take ((ji2) : Int).toNat) ([] : List Int)).bind fun bt600 => ((field_Sum.f k (l0_1.take ((ji5) : Int).toNat) ([] : List Int)).bind fun bt604 => (if bt592.2 = 0 then (if bt596.2 = 0 then (if bt600.2 = 0 then (foghornlaw18_FieldRings.j0 k a0_3 (l0_0.take ((ji2) : Int).toNat) (l0_1.take ((ji5) : Int).toNat) (l0_2.take ((mn (l0_2.length : Int) 10) : Int).toNat) bt592.1 bt596.1 bt600.1 bt604.1 (bt604.2 != 0)) else (foghornlaw18_FieldRings.j0 k a0_3 (l0_0.take ((ji2) : Int).toNat) (l0_1.take ((ji5) : Int).toNat) (l0_2.take ((mn (l0_2.length : Int) 10) : Int).toNat) bt592.1 bt596.1 bt600.1 bt604.1 true)) else (foghornlaw18_FieldRings.j0 k a0_3 (l0_0.take ((ji2) : Int).toNat) (l0_1.take ((ji5) : Int).toNat) (l0_2.take ((mn (l0_2.length : Int) 10) : Int).toNat) bt592.1 bt596.1 bt600.1 bt604.1 true)) else (foghornlaw18_FieldRings.j0 k a0_3 (l0_0.take ((ji2) : Int).toNat) (l0_1.take ((ji5) : Int).toNat) (l0_2.take ((mn (l0_2.length : Int) 10) : Int).toNat) bt592.1 bt596.1 bt600.1 bt604.1 true)))))) else (none)) else (none)) else (none)) else (none)) = some r := by first | (rw [hji5] at H; exact H) | (simp only [hji5] at H ⊢; exact H)
      (try (have hji5h : ji5 ≤ 40 := by (rw [← hji5]; unfold mn; (repeat' split) <;> omega)))
      (try (have hji5g : ji5 ≤ 64 := by omega))
      (try (have hji5l : 0 ≤ ji5 := by (rw [← hji5]; unfold mn; (repeat' split) <;> omega)))
      (try (have hji5m : 0 ≤ ji5 := by omega))
      have hji5_ : (if 40 < (l0_1.length : Int) then 40 else (l0_1.length : Int)) = ji5 := hji5
      by_cases c6 : 0 ≤ (ji5)
      · rw [if_pos c6] at H
        have c6b0 := eq_true c6
        have c6b1 : decide (0 ≤ (ji5)) = true := decide_eq_true c6
        clear c6
        by_cases c7 : (ji5) ≤ (l0_1.length : Int)
        · rw [if_pos c7] at H
          have c7b0 := eq_true c7
          have c7b1 : decide ((ji5) ≤ (l0_1.length : Int)) = true := decide_eq_true c7
          clear c7
          obtain ⟨ji8, hji8⟩ : ∃ j_ : Int, (mn (l0_2.length : Int) 10) = j_ := ⟨_, rfl⟩
          replace H : (if 0 ≤ (ji8) then (if (ji8) ≤ (l0_2.length : Int) then ((field_Sum.f k (l0_0.take ((ji2) : Int).toNat) (l0_1.take ((ji5) : Int).toNat)).bind fun bt592 => ((field_Product.f k (l0_0.take ((ji2) : Int).toNat) (l0_1.take ((ji5) : Int).toNat)).bind fun bt596 => ((field_Sum.f k (l0_0.take ((ji2) : Int).toNat) ([] : List Int)).bind fun bt600 => ((field_Sum.f k (l0_1.take ((ji5) : Int).toNat) ([] : List Int)).bind fun bt604 => (if bt592.2 = 0 then (if bt596.2 = 0 then (if bt600.2 = 0 then (foghornlaw18_FieldRings.j0 k a0_3 (l0_0.take ((ji2) : Int).toNat) (l0_1.take ((ji5) : Int).toNat) (l0_2.take ((ji8) : Int).toNat) bt592.1 bt596.1 bt600.1 bt604.1 (bt604.2 != 0)) else (foghornlaw18_FieldRings.j0 k a0_3 (l0_0.take ((ji2) : Int).toNat) (l0_1.take ((ji5) : Int).toNat) (l0_2.take ((ji8) : Int).toNat) bt592.1 bt596.1 bt600.1 bt604.1 true)) else (foghornlaw18_FieldRings.j0 k a0_3 (l0_0.take ((ji2) : Int).toNat) (l0_1.take ((ji5) : Int).toNat) (l0_2.take ((ji8) : Int).toNat) bt592.1 bt596.1 bt600.1 bt604.1 true)) else (foghornlaw18_FieldRings.j0 k a0_3 (l0_0.take ((ji2) : Int).toNat) (l0_1.take ((ji5) : Int).toNat) (l0_2.take ((ji8) : Int).toNat) bt592.1 bt596.1 bt600.1 bt604.1 true)))))) else (none)) else (none)) = some r := by first | (rw [hji8] at H; exact H) | (simp only [hji8] at H ⊢; exact H)
          (try (have hji8h : ji8 ≤ 10 := by (rw [← hji8]; unfold mn; (repeat' split) <;> omega)))
          (try (have hji8g : ji8 ≤ 64 := by omega))
          (try (have hji8l : 0 ≤ ji8 := by (rw [← hji8]; unfold mn; (repeat' split) <;> omega)))
          (try (have hji8m : 0 ≤ ji8 := by omega))
          have hji8_ : (if 10 < (l0_2.length : Int) then 10 else (l0_2.length : Int)) = ji8 := hji8
          by_cases c9 : 0 ≤ (ji8)
          · rw [if_pos c9] at H
            have c9b0 := eq_true c9
            have c9b1 : decide (0 ≤ (ji8)) = true := decide_eq_true c9
            clear c9
            by_cases c10 : (ji8) ≤ (l0_2.length : Int)
            · rw [if_pos c10] at H
              have c10b0 := eq_true c10
              have c10b1 : decide ((ji8) ≤ (l0_2.length : Int)) = true := decide_eq_true c10
              clear c10
              replace H := Option.bind_eq_some_iff.mp H
              obtain ⟨⟨t592, t595⟩, A110, H⟩ := H
              replace H : ((field_Product.f k (l0_0.take ((ji2) : Int).toNat) (l0_1.take ((ji5) : Int).toNat)).bind fun bt596 => ((field_Sum.f k (l0_0.take ((ji2) : Int).toNat) ([] : List Int)).bind fun bt600 => ((field_Sum.f k (l0_1.take ((ji5) : Int).toNat) ([] : List Int)).bind fun bt604 => (if t595 = 0 then (if bt596.2 = 0 then (if bt600.2 = 0 then (foghornlaw18_FieldRings.j0 k a0_3 (l0_0.take ((ji2) : Int).toNat) (l0_1.take ((ji5) : Int).toNat) (l0_2.take ((ji8) : Int).toNat) t592 bt596.1 bt600.1 bt604.1 (bt604.2 != 0)) else (foghornlaw18_FieldRings.j0 k a0_3 (l0_0.take ((ji2) : Int).toNat) (l0_1.take ((ji5) : Int).toNat) (l0_2.take ((ji8) : Int).toNat) t592 bt596.1 bt600.1 bt604.1 true)) else (foghornlaw18_FieldRings.j0 k a0_3 (l0_0.take ((ji2) : Int).toNat) (l0_1.take ((ji5) : Int).toNat) (l0_2.take ((ji8) : Int).toNat) t592 bt596.1 bt600.1 bt604.1 true)) else (foghornlaw18_FieldRings.j0 k a0_3 (l0_0.take ((ji2) : Int).toNat) (l0_1.take ((ji5) : Int).toNat) (l0_2.take ((ji8) : Int).toNat) t592 bt596.1 bt600.1 bt604.1 true))))) = some r := H
              have A11 := Aside0.mk A110
              clear A110
              replace H := Option.bind_eq_some_iff.mp H
              obtain ⟨⟨t596, t599⟩, A120, H⟩ := H
              replace H : ((field_Sum.f k (l0_0.take ((ji2) : Int).toNat) ([] : List Int)).bind fun bt600 => ((field_Sum.f k (l0_1.take ((ji5) : Int).toNat) ([] : List Int)).bind fun bt604 => (if t595 = 0 then (if t599 = 0 then (if bt600.2 = 0 then (foghornlaw18_FieldRings.j0 k a0_3 (l0_0.take ((ji2) : Int).toNat) (l0_1.take ((ji5) : Int).toNat) (l0_2.take ((ji8) : Int).toNat) t592 t596 bt600.1 bt604.1 (bt604.2 != 0)) else (foghornlaw18_FieldRings.j0 k a0_3 (l0_0.take ((ji2) : Int).toNat) (l0_1.take ((ji5) : Int).toNat) (l0_2.take ((ji8) : Int).toNat) t592 t596 bt600.1 bt604.1 true)) else (foghornlaw18_FieldRings.j0 k a0_3 (l0_0.take ((ji2) : Int).toNat) (l0_1.take ((ji5) : Int).toNat) (l0_2.take ((ji8) : Int).toNat) t592 t596 bt600.1 bt604.1 true)) else (foghornlaw18_FieldRings.j0 k a0_3 (l0_0.take ((ji2) : Int).toNat) (l0_1.take ((ji5) : Int).toNat) (l0_2.take ((ji8) : Int).toNat) t592 t596 bt600.1 bt604.1 true)))) = some r := H
              have A12 := Aside0.mk A120
              clear A120
              replace H := Option.bind_eq_some_iff.mp H
              obtain ⟨⟨t600, t603⟩, A130, H⟩ := H
              replace H : ((field_Sum.f k (l0_1.take ((ji5) : Int).toNat) ([] : List Int)).bind fun bt604 => (if t595 = 0 then (if t599 = 0 then (if t603 = 0 then (foghornlaw18_FieldRings.j0 k a0_3 (l0_0.take ((ji2) : Int).toNat) (l0_1.take ((ji5) : Int).toNat) (l0_2.take ((ji8) : Int).toNat) t592 t596 t600 bt604.1 (bt604.2 != 0)) else (foghornlaw18_FieldRings.j0 k a0_3 (l0_0.take ((ji2) : Int).toNat) (l0_1.take ((ji5) : Int).toNat) (l0_2.take ((ji8) : Int).toNat) t592 t596 t600 bt604.1 true)) else (foghornlaw18_FieldRings.j0 k a0_3 (l0_0.take ((ji2) : Int).toNat) (l0_1.take ((ji5) : Int).toNat) (l0_2.take ((ji8) : Int).toNat) t592 t596 t600 bt604.1 true)) else (foghornlaw18_FieldRings.j0 k a0_3 (l0_0.take ((ji2) : Int).toNat) (l0_1.take ((ji5) : Int).toNat) (l0_2.take ((ji8) : Int).toNat) t592 t596 t600 bt604.1 true))) = some r := H
              have A13 := Aside0.mk A130
              clear A130
              replace H := Option.bind_eq_some_iff.mp H
              obtain ⟨⟨t604, t607⟩, A140, H⟩ := H
              replace H : (if t595 = 0 then (if t599 = 0 then (if t603 = 0 then (foghornlaw18_FieldRings.j0 k a0_3 (l0_0.take ((ji2) : Int).toNat) (l0_1.take ((ji5) : Int).toNat) (l0_2.take ((ji8) : Int).toNat) t592 t596 t600 t604 (t607 != 0)) else (foghornlaw18_FieldRings.j0 k a0_3 (l0_0.take ((ji2) : Int).toNat) (l0_1.take ((ji5) : Int).toNat) (l0_2.take ((ji8) : Int).toNat) t592 t596 t600 t604 true)) else (foghornlaw18_FieldRings.j0 k a0_3 (l0_0.take ((ji2) : Int).toNat) (l0_1.take ((ji5) : Int).toNat) (l0_2.take ((ji8) : Int).toNat) t592 t596 t600 t604 true)) else (foghornlaw18_FieldRings.j0 k a0_3 (l0_0.take ((ji2) : Int).toNat) (l0_1.take ((ji5) : Int).toNat) (l0_2.take ((ji8) : Int).toNat) t592 t596 t600 t604 true)) = some r := H
              have A14 := Aside0.mk A140
              clear A140
              have HC15 := Aside0.mk H
              clear H
              go_enter Try.func11, Try.ntmps11
              go_upto_region 9 with (first | ((with_reducible refine gate_dst (N := 1) rfl ?_); (try (refine gate_guard (by rfl) ?_; dsimp only)); refine box_event ?hg (N := 1) ?hd (cs := #[.slice A0_0 l0_0.length c0_0, .slice A0_1 l0_1.length c0_1, .slice A0_2 l0_2.length c0_2, .int .u8 a0_3]) (t := 63) ?hr ?_; (case hd => rfl); (case hg => rfl); (case hr => first | (go_simp; done) | (go_simp; rfl)); intro gb588 hg w16 hbox hb; have n0_ := Aside0.mk (below_step (by repeat (first | (with_reducible first | exact HB.out | apply below_alloc | apply pw_below_drewN | apply below_drew1) | exact HB.out)) hb); have n1_ := Aside0.mk (hbox); have n2_ := Aside0.mk ((by rw [hg]; exact (below_size (by repeat (first | (with_reducible first | exact HB.out | apply below_alloc | apply pw_below_drewN | apply below_drew1) | exact HB.out))) : w.heap.size ≤ gb588)); have n3_ := Aside0.mk ((by rw [hg]; exact (below_size (by repeat (first | (with_reducible first | exact HB.out | apply below_alloc | apply pw_below_drewN | apply below_drew1) | exact HB.out))) : w.heap.size ≤ gb588)); clear HB; have HB := n0_; have BK588 := n1_; have GW588 := n2_; have GE588 := n3_; clear n0_ n1_ n2_ n3_; clear hb hbox hg; have hcz17_0 : w16.cell? ⟨gb588, 0, none⟩ = some (.slice A0_0 l0_0.length c0_0) := (blk_cell BK588.out 0).trans rfl; have hcz17_1 : w16.cell? ⟨gb588, 1, none⟩ = some (.slice A0_1 l0_1.length c0_1) := (blk_cell BK588.out 1).trans rfl; have hcz17_2 : w16.cell? ⟨gb588, 2, none⟩ = some (.slice A0_2 l0_2.length c0_2) := (blk_cell BK588.out 2).trans rfl; have hcz17_3 : w16.cell? ⟨gb588, 3, none⟩ = some (.int .u8 a0_3) := (blk_cell BK588.out 3).trans rfl; have hfz17_0 := blk_frozen BK588.out 0; have hfz17_1 := blk_frozen BK588.out 1; have hfz17_2 := blk_frozen BK588.out 2; have hfz17_3 := blk_frozen BK588.out 3; obtain ⟨i018, hi018, _, hsz18, _⟩ := info_parts info5; obtain ⟨hcut18, hA18, hC18⟩ := print_take_of (P := Try.prog) (Value.int .u8) 0 22 5 .i64 Try.underlying22 hi018 hsz18 A0_0 c0_0 l0_0 (ji2) (of_decide_eq_true (by first | (with_reducible assumption) | assumption)) (of_decide_eq_true (by first | (with_reducible assumption) | assumption)) HC0_0.out; have HR589 := Aside0.mk (Kd.C_of_reads (h1 := fun _ => rfl) (hA18 _ (Kd.reads_of_C HR0_0.out))); have HC589 := Aside0.mk hC18; clear hA18 hC18 hi018 hsz18; obtain ⟨i019, hi019, _, hsz19, _⟩ := info_parts info5; obtain ⟨hcut19, hA19, hC19⟩ := print_take_of (P := Try.prog) (Value.int .u8) 0 22 5 .i64 Try.underlying22 hi019 hsz19 A0_1 c0_1 l0_1 (ji5) (of_decide_eq_true (by first | (with_reducible assumption) | assumption)) (of_decide_eq_true (by first | (with_reducible assumption) | assumption)) HC0_1.out; have HR590 := Aside0.mk (Kd.C_of_reads (h1 := fun _ => rfl) (hA19 _ (Kd.reads_of_C HR0_1.out))); have HC590 := Aside0.mk hC19; clear hA19 hC19 hi019 hsz19; obtain ⟨i020, hi020, _, hsz20, _⟩ := info_parts info5; obtain ⟨hcut20, hA20, hC20⟩ := print_take_of (P := Try.prog) (Value.int .u8) 0 22 5 .i64 Try.underlying22 hi020 hsz20 A0_2 c0_2 l0_2 (ji8) (of_decide_eq_true (by first | (with_reducible assumption) | assumption)) (of_decide_eq_true (by first | (with_reducible assumption) | assumption)) HC0_2.out; have HR591 := Aside0.mk (Kd.C_of_reads (h1 := fun _ => rfl) (hA20 _ (Kd.reads_of_C HR0_2.out))); have HC591 := Aside0.mk hC20; clear hA20 hC20 hi020 hsz20) | ((with_reducible refine gate_callee (f := 49) rfl ?_); refine goesL_ (some 62) rfl rfl Try.func49 (by kernel_rfl) rfl #[.slice A0_0 (l0_0.take ((ji2) : Int).toNat).length c0_0, .slice A0_1 (l0_1.take ((ji5) : Int).toNat).length c0_1] rfl (by (try simp only [List.map_toArray, List.map_cons, List.map_nil]); first | done | (rw [show (l0_0.take ((ji2) : Int).toNat).length = (ji2).toNat from (by rw [List.length_take]; have h_ : ((ji2) : Int) ≤ (l0_0.length : Int) := (by first | exact of_decide_eq_true (by first | (with_reducible assumption) | assumption) | (rw [← hji2]; unfold mn; split <;> omega)); omega)] <;> rfl) | (rw [show (l0_1.take ((ji5) : Int).toNat).length = (ji5).toNat from (by rw [List.length_take]; have h_ : ((ji5) : Int) ≤ (l0_1.length : Int) := (by first | exact of_decide_eq_true (by first | (with_reducible assumption) | assumption) | (rw [← hji5]; unfold mn; split <;> omega)); omega)] <;> rfl) | ((try rw [show (l0_0.take ((ji2) : Int).toNat).length = (ji2).toNat from (by rw [List.length_take]; have h_ : ((ji2) : Int) ≤ (l0_0.length : Int) := (by first | exact of_decide_eq_true (by first | (with_reducible assumption) | assumption) | (rw [← hji2]; unfold mn; split <;> omega)); omega)]); (try rw [show (l0_1.take ((ji5) : Int).toNat).length = (ji5).toNat from (by rw [List.length_take]; have h_ : ((ji5) : Int) ≤ (l0_1.length : Int) := (by first | exact of_decide_eq_true (by first | (with_reducible assumption) | assumption) | (rw [← hji5]; unfold mn; split <;> omega)); omega)]); rfl) | (simp only [hji2, hji5]; rfl) | rfl | (simp only [List.length_drop, List.length_take]; rfl)) ?_; (with_reducible refine (field_Sum.calls k (fun k_ => k_ < w.heap.size) _ _ (l0_0.take ((ji2) : Int).toNat) (fun k_ => k_ < w.heap.size) _ _ (l0_1.take ((ji5) : Int).toNat) t592 t595 _ ?side1 ?side2 A11.out).mono ?_); (case side1 => exact Kd.V_mk HC589.out (Kd.F_below (Kd.C_F (Kd.heap_int .u8) HR589.out) (by repeat (first | (with_reducible first | exact HB.out | apply below_alloc | apply pw_below_drewN | apply below_drew1 | refine below_set ?_ GE588.out) | exact HB.out)))); (case side2 => exact Kd.V_mk HC590.out (Kd.F_below (Kd.C_F (Kd.heap_int .u8) HR590.out) (by repeat (first | (with_reducible first | exact HB.out | apply below_alloc | apply pw_below_drewN | apply below_drew1 | refine below_set ?_ GE588.out) | exact HB.out)))); rintro e w21 ⟨v593, rfl, ho0, hb⟩; refine ⟨_, rfl, ?_⟩; have n0_ := Aside0.mk (Kd.R_lower (Kd.R_mono (ok' := fun k_ => True) ho0 (fun _ hk_ => trivial)) (below_size (by repeat (first | (with_reducible first | exact HB.out | apply below_alloc | apply pw_below_drewN | apply below_drew1 | refine below_set ?_ GE588.out) | exact HB.out)))); have n1_ := Aside0.mk (blk_below (g := gb588) (o := .cells #[.slice A0_0 l0_0.length c0_0, .slice A0_1 l0_1.length c0_1, .slice A0_2 l0_2.length c0_2, .int .u8 a0_3] 63 (0, 0)) (by (with_reducible repeat (first | refine blk_drewN ?_ _ | refine blk_drew ?_ | refine blk_alloc ?_ _)); exact BK588.out) hb); have n2_ := Aside0.mk (below_step (by repeat (first | (with_reducible first | exact HB.out | apply below_alloc | apply pw_below_drewN | apply below_drew1 | refine below_set ?_ GE588.out) | exact HB.out)) hb); clear BK588; clear HB; have HO594 := n0_; have BK588 := n1_; have HB := n2_; clear n0_ n1_ n2_; (try clear hb); (try clear hb2); (try clear hk); (try clear hi); (try clear ho0)) | ((with_reducible refine gate_callee (f := 50) rfl ?_); refine goesL_ (some 68) rfl rfl Try.func50 (by kernel_rfl) rfl #[.slice A0_0 (l0_0.take ((ji2) : Int).toNat).length c0_0, .slice A0_1 (l0_1.take ((ji5) : Int).toNat).length c0_1] rfl (by (try simp only [List.map_toArray, List.map_cons, List.map_nil]); first | done | (rw [show (l0_0.take ((ji2) : Int).toNat).length = (ji2).toNat from (by rw [List.length_take]; have h_ : ((ji2) : Int) ≤ (l0_0.length : Int) := (by first | exact of_decide_eq_true (by first | (with_reducible assumption) | assumption) | (rw [← hji2]; unfold mn; split <;> omega)); omega)] <;> rfl) | (rw [show (l0_1.take ((ji5) : Int).toNat).length = (ji5).toNat from (by rw [List.length_take]; have h_ : ((ji5) : Int) ≤ (l0_1.length : Int) := (by first | exact of_decide_eq_true (by first | (with_reducible assumption) | assumption) | (rw [← hji5]; unfold mn; split <;> omega)); omega)] <;> rfl) | ((try rw [show (l0_0.take ((ji2) : Int).toNat).length = (ji2).toNat from (by rw [List.length_take]; have h_ : ((ji2) : Int) ≤ (l0_0.length : Int) := (by first | exact of_decide_eq_true (by first | (with_reducible assumption) | assumption) | (rw [← hji2]; unfold mn; split <;> omega)); omega)]); (try rw [show (l0_1.take ((ji5) : Int).toNat).length = (ji5).toNat from (by rw [List.length_take]; have h_ : ((ji5) : Int) ≤ (l0_1.length : Int) := (by first | exact of_decide_eq_true (by first | (with_reducible assumption) | assumption) | (rw [← hji5]; unfold mn; split <;> omega)); omega)]); rfl) | (simp only [hji2, hji5]; rfl) | rfl | (simp only [List.length_drop, List.length_take]; rfl)) ?_; (with_reducible refine (field_Product.calls k (fun k_ => k_ < w.heap.size) _ _ (l0_0.take ((ji2) : Int).toNat) (fun k_ => k_ < w.heap.size) _ _ (l0_1.take ((ji5) : Int).toNat) t596 t599 _ ?side1 ?side2 A12.out).mono ?_); (case side1 => exact Kd.V_mk HC589.out (Kd.F_below (Kd.C_F (Kd.heap_int .u8) HR589.out) (by repeat (first | (with_reducible first | exact HB.out | apply below_alloc | apply pw_below_drewN | apply below_drew1 | refine below_set ?_ GE588.out) | exact HB.out)))); (case side2 => exact Kd.V_mk HC590.out (Kd.F_below (Kd.C_F (Kd.heap_int .u8) HR590.out) (by repeat (first | (with_reducible first | exact HB.out | apply below_alloc | apply pw_below_drewN | apply below_drew1 | refine below_set ?_ GE588.out) | exact HB.out)))); rintro e w22 ⟨v597, rfl, ho0, hb⟩; refine ⟨_, rfl, ?_⟩; have n0_ := Aside0.mk (Kd.R_elder' (by (with_reducible repeat (first | apply Kd.R_alloc | apply Kd.R_drewN | apply Kd.R_drew)); exact HO594.out) (Kd.R_base ho0) hb); have n1_ := Aside0.mk (Kd.R_lower (Kd.R_new' (Kd.R_mono (ok' := fun k_ => True) ho0 (fun _ hk_ => trivial)) (Kd.R_lt (by (with_reducible repeat (first | apply Kd.R_alloc | apply Kd.R_drewN | apply Kd.R_drew)); exact HO594.out))) (below_size (by repeat (first | (with_reducible first | exact HB.out | apply below_alloc | apply pw_below_drewN | apply below_drew1 | refine below_set ?_ GE588.out) | exact HB.out)))); have n2_ := Aside0.mk (blk_below (g := gb588) (o := .cells #[.slice A0_0 l0_0.length c0_0, .slice A0_1 l0_1.length c0_1, .slice A0_2 l0_2.length c0_2, .int .u8 a0_3] 63 (0, 0)) (by (with_reducible repeat (first | refine blk_drewN ?_ _ | refine blk_drew ?_ | refine blk_alloc ?_ _)); exact BK588.out) hb); have n3_ := Aside0.mk (below_step (by repeat (first | (with_reducible first | exact HB.out | apply below_alloc | apply pw_below_drewN | apply below_drew1 | refine below_set ?_ GE588.out) | exact HB.out)) hb); clear HO594; clear BK588; clear HB; have HO594 := n0_; have HO598 := n1_; have BK588 := n2_; have HB := n3_; clear n0_ n1_ n2_ n3_; (try clear hb); (try clear hb2); (try clear hk); (try clear hi); (try clear ho0)) | ((with_reducible refine gate_callee (f := 49) rfl ?_); refine goesL_ (some 73) rfl rfl Try.func49 (by kernel_rfl) rfl #[.slice A0_0 (l0_0.take ((ji2) : Int).toNat).length c0_0, .slice none 0 0] rfl (by (try simp only [List.map_toArray, List.map_cons, List.map_nil]); first | done | (rw [show (l0_0.take ((ji2) : Int).toNat).length = (ji2).toNat from (by rw [List.length_take]; have h_ : ((ji2) : Int) ≤ (l0_0.length : Int) := (by first | exact of_decide_eq_true (by first | (with_reducible assumption) | assumption) | (rw [← hji2]; unfold mn; split <;> omega)); omega)] <;> rfl) | (simp only [hji2]; rfl) | rfl | (simp only [List.length_drop, List.length_take]; rfl)) ?_; (refine (field_Sum.calls k (fun k_ => k_ < w.heap.size) _ _ (l0_0.take ((ji2) : Int).toNat) (fun k_ => False) _ _ ([] : List Int) t600 t603 _ ?side1 ?side2 A13.out).mono ?_); (case side1 => exact Kd.V_mk HC589.out (Kd.F_below (Kd.C_F (Kd.heap_int .u8) HR589.out) (by repeat (first | (with_reducible first | exact HB.out | apply below_alloc | apply pw_below_drewN | apply below_drew1 | refine below_set ?_ GE588.out) | exact HB.out)))); (case side2 => exact Kd.V_nil _ _ _ _ _); rintro e w23 ⟨v601, rfl, ho0, hb⟩; refine ⟨_, rfl, ?_⟩; have n0_ := Aside0.mk (Kd.R_elder' (by (with_reducible repeat (first | apply Kd.R_alloc | apply Kd.R_drewN | apply Kd.R_drew)); exact HO594.out) (Kd.R_base ho0) hb); have n1_ := Aside0.mk (Kd.R_elder' (by (with_reducible repeat (first | apply Kd.R_alloc | apply Kd.R_drewN | apply Kd.R_drew)); exact HO598.out) (Kd.R_base ho0) hb); have n2_ := Aside0.mk (Kd.R_lower (Kd.R_new' (Kd.R_new' (Kd.R_mono (ok' := fun k_ => True) ho0 (fun _ hk_ => trivial)) (Kd.R_lt (by (with_reducible repeat (first | apply Kd.R_alloc | apply Kd.R_drewN | apply Kd.R_drew)); exact HO594.out))) (Kd.R_lt (by (with_reducible repeat (first | apply Kd.R_alloc | apply Kd.R_drewN | apply Kd.R_drew)); exact HO598.out))) (below_size (by repeat (first | (with_reducible first | exact HB.out | apply below_alloc | apply pw_below_drewN | apply below_drew1 | refine below_set ?_ GE588.out) | exact HB.out)))); have n3_ := Aside0.mk (blk_below (g := gb588) (o := .cells #[.slice A0_0 l0_0.length c0_0, .slice A0_1 l0_1.length c0_1, .slice A0_2 l0_2.length c0_2, .int .u8 a0_3] 63 (0, 0)) (by (with_reducible repeat (first | refine blk_drewN ?_ _ | refine blk_drew ?_ | refine blk_alloc ?_ _)); exact BK588.out) hb); have n4_ := Aside0.mk (below_step (by repeat (first | (with_reducible first | exact HB.out | apply below_alloc | apply pw_below_drewN | apply below_drew1 | refine below_set ?_ GE588.out) | exact HB.out)) hb); clear HO594; clear HO598; clear BK588; clear HB; have HO594 := n0_; have HO598 := n1_; have HO602 := n2_; have BK588 := n3_; have HB := n4_; clear n0_ n1_ n2_ n3_ n4_; (try clear hb); (try clear hb2); (try clear hk); (try clear hi); (try clear ho0)) | ((with_reducible refine gate_callee (f := 49) rfl ?_); refine goesL_ (some 78) rfl rfl Try.func49 (by kernel_rfl) rfl #[.slice A0_1 (l0_1.take ((ji5) : Int).toNat).length c0_1, .slice none 0 0] rfl (by (try simp only [List.map_toArray, List.map_cons, List.map_nil]); first | done | (rw [show (l0_1.take ((ji5) : Int).toNat).length = (ji5).toNat from (by rw [List.length_take]; have h_ : ((ji5) : Int) ≤ (l0_1.length : Int) := (by first | exact of_decide_eq_true (by first | (with_reducible assumption) | assumption) | (rw [← hji5]; unfold mn; split <;> omega)); omega)] <;> rfl) | (simp only [hji5]; rfl) | rfl | (simp only [List.length_drop, List.length_take]; rfl)) ?_; (refine (field_Sum.calls k (fun k_ => k_ < w.heap.size) _ _ (l0_1.take ((ji5) : Int).toNat) (fun k_ => False) _ _ ([] : List Int) t604 t607 _ ?side1 ?side2 A14.out).mono ?_); (case side1 => exact Kd.V_mk HC590.out (Kd.F_below (Kd.C_F (Kd.heap_int .u8) HR590.out) (by repeat (first | (with_reducible first | exact HB.out | apply below_alloc | apply pw_below_drewN | apply below_drew1 | refine below_set ?_ GE588.out) | exact HB.out)))); (case side2 => exact Kd.V_nil _ _ _ _ _); rintro e w24 ⟨v605, rfl, ho0, hb⟩; refine ⟨_, rfl, ?_⟩; have n0_ := Aside0.mk (Kd.R_elder' (by (with_reducible repeat (first | apply Kd.R_alloc | apply Kd.R_drewN | apply Kd.R_drew)); exact HO594.out) (Kd.R_base ho0) hb); have n1_ := Aside0.mk (Kd.R_elder' (by (with_reducible repeat (first | apply Kd.R_alloc | apply Kd.R_drewN | apply Kd.R_drew)); exact HO598.out) (Kd.R_base ho0) hb); have n2_ := Aside0.mk (Kd.R_elder' (by (with_reducible repeat (first | apply Kd.R_alloc | apply Kd.R_drewN | apply Kd.R_drew)); exact HO602.out) (Kd.R_base ho0) hb); have n3_ := Aside0.mk (Kd.R_lower (Kd.R_new' (Kd.R_new' (Kd.R_new' (Kd.R_mono (ok' := fun k_ => True) ho0 (fun _ hk_ => trivial)) (Kd.R_lt (by (with_reducible repeat (first | apply Kd.R_alloc | apply Kd.R_drewN | apply Kd.R_drew)); exact HO594.out))) (Kd.R_lt (by (with_reducible repeat (first | apply Kd.R_alloc | apply Kd.R_drewN | apply Kd.R_drew)); exact HO598.out))) (Kd.R_lt (by (with_reducible repeat (first | apply Kd.R_alloc | apply Kd.R_drewN | apply Kd.R_drew)); exact HO602.out))) (below_size (by repeat (first | (with_reducible first | exact HB.out | apply below_alloc | apply pw_below_drewN | apply below_drew1 | refine below_set ?_ GE588.out) | exact HB.out)))); have n4_ := Aside0.mk (blk_below (g := gb588) (o := .cells #[.slice A0_0 l0_0.length c0_0, .slice A0_1 l0_1.length c0_1, .slice A0_2 l0_2.length c0_2, .int .u8 a0_3] 63 (0, 0)) (by (with_reducible repeat (first | refine blk_drewN ?_ _ | refine blk_drew ?_ | refine blk_alloc ?_ _)); exact BK588.out) hb); have n5_ := Aside0.mk (below_step (by repeat (first | (with_reducible first | exact HB.out | apply below_alloc | apply pw_below_drewN | apply below_drew1 | refine below_set ?_ GE588.out) | exact HB.out)) hb); clear HO594; clear HO598; clear HO602; clear BK588; clear HB; have HO594 := n0_; have HO598 := n1_; have HO602 := n2_; have HO606 := n3_; have BK588 := n4_; have HB := n5_; clear n0_ n1_ n2_ n3_ n4_ n5_; (try clear hb); (try clear hb2); (try clear hk); (try clear hi); (try clear ho0)))
              (try simp only [Act.put, List.setIfInBounds_toArray, List.set_cons_zero, List.set_cons_succ])
              go_cut [94] (fun v94 wc => ∃ (kq : Nat) (x94_14 : Bool), v94 = .bool x94_14 ∧ Aside0 (foghornlaw18_FieldRings.j0 kq a0_3 (l0_0.take ((ji2) : Int).toNat) (l0_1.take ((ji5) : Int).toNat) (l0_2.take ((ji8) : Int).toNat) t592 t596 t600 t604 x94_14 = some r) ∧ Aside0 (kq ≤ k) ∧ Aside0 (Kd.R (Kd.int .u8) 5 wc w.heap.size (fun k_ => some k_ ≠ (v597 : Value).ownBlock ∧ some k_ ≠ (v601 : Value).ownBlock ∧ some k_ ≠ (v605 : Value).ownBlock) v593 t592) ∧ Aside0 (Kd.R (Kd.int .u8) 5 wc w.heap.size (fun k_ => some k_ ≠ (v593 : Value).ownBlock ∧ some k_ ≠ (v601 : Value).ownBlock ∧ some k_ ≠ (v605 : Value).ownBlock) v597 t596) ∧ Aside0 (Kd.R (Kd.int .u8) 5 wc w.heap.size (fun k_ => some k_ ≠ (v593 : Value).ownBlock ∧ some k_ ≠ (v597 : Value).ownBlock ∧ some k_ ≠ (v605 : Value).ownBlock) v601 t600) ∧ Aside0 (Kd.R (Kd.int .u8) 5 wc w.heap.size (fun k_ => some k_ ≠ (v593 : Value).ownBlock ∧ some k_ ≠ (v597 : Value).ownBlock ∧ some k_ ≠ (v601 : Value).ownBlock) v605 t604) ∧ Aside0 (wc.heap[gb588]? = some (.cells #[(.slice A0_0 l0_0.length c0_0), (.slice A0_1 l0_1.length c0_1), (.slice A0_2 l0_2.length c0_2), .int .u8 a0_3] 63 (0, 0))) ∧ Aside0 (Below w.heap.size w wc))
              case first =>
                have H := HC15.out
                clear HC15
                by_cases c25 : t595 = 0
                · rw [if_pos c25] at H
                  have c25b0 : (t595 == 0) = true := beq_iff_eq.mpr c25
                  have c25b1 : (t595 != 0) = false := bne_eq_false_iff_eq.mpr c25
                  clear c25
                  (first | rw [c25b0] | (simp only [i64_w, i32_w]; rw [c25b0]) | skip)
                  by_cases c26 : t599 = 0
                  · rw [if_pos c26] at H
                    have c26b0 : (t599 == 0) = true := beq_iff_eq.mpr c26
                    have c26b1 : (t599 != 0) = false := bne_eq_false_iff_eq.mpr c26
                    clear c26
                    by_cases c27 : t603 = 0
                    · rw [if_pos c27] at H
                      have c27b0 : (t603 == 0) = true := beq_iff_eq.mpr c27
                      have c27b1 : (t603 != 0) = false := bne_eq_false_iff_eq.mpr c27
                      clear c27
                      as_aux_lemma =>
                        have H' := Aside0.mk H
                        clear H
                        go_wp2
                        go_meet
                        case rel => exact ⟨_, ((t607 != 0)), (by first | rfl | (simp; done) | (simp [*]; done)), H', ⟨by first | omega | exact Nat.le_refl _⟩, ⟨by (with_reducible repeat (first | apply Kd.R_alloc | apply Kd.R_drewN | apply Kd.R_drew)); exact Kd.R_mono HO594.out (fun _ hk => ⟨hk.1.1.2, ⟨hk.1.2, hk.2⟩⟩)⟩, ⟨by (with_reducible repeat (first | apply Kd.R_alloc | apply Kd.R_drewN | apply Kd.R_drew)); exact Kd.R_mono HO598.out (fun _ hk => ⟨hk.1.1.2, ⟨hk.1.2, hk.2⟩⟩)⟩, ⟨by (with_reducible repeat (first | apply Kd.R_alloc | apply Kd.R_drewN | apply Kd.R_drew)); exact Kd.R_mono HO602.out (fun _ hk => ⟨hk.1.1.2, ⟨hk.1.2, hk.2⟩⟩)⟩, ⟨by (with_reducible repeat (first | apply Kd.R_alloc | apply Kd.R_drewN | apply Kd.R_drew)); exact Kd.R_mono HO606.out (fun _ hk => ⟨hk.1.1.2, ⟨hk.1.2, hk.2⟩⟩)⟩, ⟨by (with_reducible repeat (first | refine blk_drewN ?_ _ | refine blk_drew ?_ | refine blk_alloc ?_ _)); exact BK588.out⟩, ⟨by repeat (first | (with_reducible first | exact HB.out | apply below_alloc | apply pw_below_drewN | apply below_drew1 | refine below_set ?_ GE588.out) | exact HB.out)⟩⟩
                    · rw [if_neg c27] at H
                      have c27b0 : (t603 == 0) = false := beq_eq_false_iff_ne.mpr c27
                      have c27b1 : (t603 != 0) = true := bne_iff_ne.mpr c27
                      as_aux_lemma =>
                        have H' := Aside0.mk H
                        clear H
                        go_wp2
                        go_meet
                        case rel => exact ⟨_, (true), (by first | rfl | (simp; done) | (simp [*]; done)), H', ⟨by first | omega | exact Nat.le_refl _⟩, ⟨by (with_reducible repeat (first | apply Kd.R_alloc | apply Kd.R_drewN | apply Kd.R_drew)); exact Kd.R_mono HO594.out (fun _ hk => ⟨hk.1.1.2, ⟨hk.1.2, hk.2⟩⟩)⟩, ⟨by (with_reducible repeat (first | apply Kd.R_alloc | apply Kd.R_drewN | apply Kd.R_drew)); exact Kd.R_mono HO598.out (fun _ hk => ⟨hk.1.1.2, ⟨hk.1.2, hk.2⟩⟩)⟩, ⟨by (with_reducible repeat (first | apply Kd.R_alloc | apply Kd.R_drewN | apply Kd.R_drew)); exact Kd.R_mono HO602.out (fun _ hk => ⟨hk.1.1.2, ⟨hk.1.2, hk.2⟩⟩)⟩, ⟨by (with_reducible repeat (first | apply Kd.R_alloc | apply Kd.R_drewN | apply Kd.R_drew)); exact Kd.R_mono HO606.out (fun _ hk => ⟨hk.1.1.2, ⟨hk.1.2, hk.2⟩⟩)⟩, ⟨by (with_reducible repeat (first | refine blk_drewN ?_ _ | refine blk_drew ?_ | refine blk_alloc ?_ _)); exact BK588.out⟩, ⟨by repeat (first | (with_reducible first | exact HB.out | apply below_alloc | apply pw_below_drewN | apply below_drew1 | refine below_set ?_ GE588.out) | exact HB.out)⟩⟩
                  · rw [if_neg c26] at H
                    have c26b0 : (t599 == 0) = false := beq_eq_false_iff_ne.mpr c26
                    have c26b1 : (t599 != 0) = true := bne_iff_ne.mpr c26
                    as_aux_lemma =>
                      have H' := Aside0.mk H
                      clear H
                      go_wp2
                      go_meet
                      case rel => exact ⟨_, (true), (by first | rfl | (simp; done) | (simp [*]; done)), H', ⟨by first | omega | exact Nat.le_refl _⟩, ⟨by (with_reducible repeat (first | apply Kd.R_alloc | apply Kd.R_drewN | apply Kd.R_drew)); exact Kd.R_mono HO594.out (fun _ hk => ⟨hk.1.1.2, ⟨hk.1.2, hk.2⟩⟩)⟩, ⟨by (with_reducible repeat (first | apply Kd.R_alloc | apply Kd.R_drewN | apply Kd.R_drew)); exact Kd.R_mono HO598.out (fun _ hk => ⟨hk.1.1.2, ⟨hk.1.2, hk.2⟩⟩)⟩, ⟨by (with_reducible repeat (first | apply Kd.R_alloc | apply Kd.R_drewN | apply Kd.R_drew)); exact Kd.R_mono HO602.out (fun _ hk => ⟨hk.1.1.2, ⟨hk.1.2, hk.2⟩⟩)⟩, ⟨by (with_reducible repeat (first | apply Kd.R_alloc | apply Kd.R_drewN | apply Kd.R_drew)); exact Kd.R_mono HO606.out (fun _ hk => ⟨hk.1.1.2, ⟨hk.1.2, hk.2⟩⟩)⟩, ⟨by (with_reducible repeat (first | refine blk_drewN ?_ _ | refine blk_drew ?_ | refine blk_alloc ?_ _)); exact BK588.out⟩, ⟨by repeat (first | (with_reducible first | exact HB.out | apply below_alloc | apply pw_below_drewN | apply below_drew1 | refine below_set ?_ GE588.out) | exact HB.out)⟩⟩
                · rw [if_neg c25] at H
                  have c25b0 : (t595 == 0) = false := beq_eq_false_iff_ne.mpr c25
                  have c25b1 : (t595 != 0) = true := bne_iff_ne.mpr c25
                  (first | rw [c25b0] | (simp only [i64_w, i32_w]; rw [c25b0]) | skip)
                  as_aux_lemma =>
                    have H' := Aside0.mk H
                    clear H
                    go_wp2
                    go_meet
                    case rel => exact ⟨_, (true), (by first | rfl | (simp; done) | (simp [*]; done)), H', ⟨by first | omega | exact Nat.le_refl _⟩, ⟨by (with_reducible repeat (first | apply Kd.R_alloc | apply Kd.R_drewN | apply Kd.R_drew)); exact Kd.R_mono HO594.out (fun _ hk => ⟨hk.1.1.2, ⟨hk.1.2, hk.2⟩⟩)⟩, ⟨by (with_reducible repeat (first | apply Kd.R_alloc | apply Kd.R_drewN | apply Kd.R_drew)); exact Kd.R_mono HO598.out (fun _ hk => ⟨hk.1.1.2, ⟨hk.1.2, hk.2⟩⟩)⟩, ⟨by (with_reducible repeat (first | apply Kd.R_alloc | apply Kd.R_drewN | apply Kd.R_drew)); exact Kd.R_mono HO602.out (fun _ hk => ⟨hk.1.1.2, ⟨hk.1.2, hk.2⟩⟩)⟩, ⟨by (with_reducible repeat (first | apply Kd.R_alloc | apply Kd.R_drewN | apply Kd.R_drew)); exact Kd.R_mono HO606.out (fun _ hk => ⟨hk.1.1.2, ⟨hk.1.2, hk.2⟩⟩)⟩, ⟨by (with_reducible repeat (first | refine blk_drewN ?_ _ | refine blk_drew ?_ | refine blk_alloc ?_ _)); exact BK588.out⟩, ⟨by repeat (first | (with_reducible first | exact HB.out | apply below_alloc | apply pw_below_drewN | apply below_drew1 | refine below_set ?_ GE588.out) | exact HB.out)⟩⟩
              case rest =>
                clear HC15
                try clear c1
                try clear c2
                try clear p2
                try clear c3
                try clear c3b0
                try clear c3b1
                try clear c4
                try clear c4b0
                try clear c4b1
                try clear c5
                try clear c6
                try clear c6b0
                try clear c6b1
                try clear c7
                try clear c7b0
                try clear c7b1
                try clear c9
                try clear c9b0
                try clear c9b1
                try clear c10
                try clear c10b0
                try clear c10b1
                try clear c11
                try clear c25
                try clear c25b0
                try clear c25b1
                try clear c26
                try clear c26b0
                try clear c26b1
                try clear c27
                try clear c27b0
                try clear c27b1
                try clear hcz17_0
                try clear hcz17_1
                try clear hcz17_2
                try clear hcz17_3
                try clear hfz17_0
                try clear hfz17_1
                try clear hfz17_2
                try clear hfz17_3
                obtain ⟨kq, x94_14, rfl, HA, HJ14, HO_7, HO_9, HO_11, HO_13, BK588, HB⟩ := hcut
                cases kq with
                | zero => exact absurd HA.out (by simp [foghornlaw18_FieldRings.j0])
                | succ kj14 =>
                  have H := HA.out
                  clear HA
                  simp only [foghornlaw18_FieldRings.j0] at H
                  by_cases c28 : x94_14 = true
                  · subst c28
                    have H1 : (some false) = some r := by rw [if_pos rfl] at H; exact H
                    clear H
                    have H := H1
                    clear H1
                    as_aux_lemma =>
                      exact absurd ((Option.some.inj H).trans HQ_.out) (by decide)
                  · replace c28 := Bool.eq_false_iff.mpr c28
                    subst c28
                    have H1 : ((field_At.f (l0_0.take ((ji2) : Int).toNat) a0_3).bind fun bt608 => ((field_At.f (l0_1.take ((ji5) : Int).toNat) a0_3).bind fun bt610 => ((field_At.f t592 a0_3).bind fun bt612 => ((field_At.f t596 a0_3).bind fun bt614 => (if bt612.2 = 0 then (if bt614.2 = 0 then ((field_Plus.f bt608.1 bt610.1).bind fun t616 => (if bt612.1 = t616 then ((field_Times.f kj14 bt608.1 bt610.1).bind fun t617 => (if bt614.1 = t617 then (if (t600.length : Int) > 0 then (if (t604.length : Int) > 0 then ((foghornlaw18_degree.f t596).bind fun t618 => ((foghornlaw18_degree.f t600).bind fun t619 => ((foghornlaw18_degree.f t604).bind fun t620 => (if t618 = (wrap64 (t619 + t620)) then (if (t600.length : Int) = 0 then (foghornlaw18_FieldRings.j1 kj14 (l0_0.take ((ji2) : Int).toNat) (l0_1.take ((ji5) : Int).toNat) (l0_2.take ((ji8) : Int).toNat) t600 t604 ((t596.length : Int) != 0)) else (if (t604.length : Int) = 0 then (foghornlaw18_FieldRings.j1 kj14 (l0_0.take ((ji2) : Int).toNat) (l0_1.take ((ji5) : Int).toNat) (l0_2.take ((ji8) : Int).toNat) t600 t604 ((t596.length : Int) != 0)) else (foghornlaw18_FieldRings.j1 kj14 (l0_0.take ((ji2) : Int).toNat) (l0_1.take ((ji5) : Int).toNat) (l0_2.take ((ji8) : Int).toNat) t600 t604 false))) else (foghornlaw18_FieldRings.j1 kj14 (l0_0.take ((ji2) : Int).toNat) (l0_1.take ((ji5) : Int).toNat) (l0_2.take ((ji8) : Int).toNat) t600 t604 true))))) else (if (t600.length : Int) = 0 then (foghornlaw18_FieldRings.j1 kj14 (l0_0.take ((ji2) : Int).toNat) (l0_1.take ((ji5) : Int).toNat) (l0_2.take ((ji8) : Int).toNat) t600 t604 ((t596.length : Int) != 0)) else (if (t604.length : Int) = 0 then (foghornlaw18_FieldRings.j1 kj14 (l0_0.take ((ji2) : Int).toNat) (l0_1.take ((ji5) : Int).toNat) (l0_2.take ((ji8) : Int).toNat) t600 t604 ((t596.length : Int) != 0)) else (foghornlaw18_FieldRings.j1 kj14 (l0_0.take ((ji2) : Int).toNat) (l0_1.take ((ji5) : Int).toNat) (l0_2.take ((ji8) : Int).toNat) t600 t604 false)))) else (if (t600.length : Int) = 0 then (foghornlaw18_FieldRings.j1 kj14 (l0_0.take ((ji2) : Int).toNat) (l0_1.take ((ji5) : Int).toNat) (l0_2.take ((ji8) : Int).toNat) t600 t604 ((t596.length : Int) != 0)) else (if (t604.length : Int) = 0 then (foghornlaw18_FieldRings.j1 kj14 (l0_0.take ((ji2) : Int).toNat) (l0_1.take ((ji5) : Int).toNat) (l0_2.take ((ji8) : Int).toNat) t600 t604 ((t596.length : Int) != 0)) else (foghornlaw18_FieldRings.j1 kj14 (l0_0.take ((ji2) : Int).toNat) (l0_1.take ((ji5) : Int).toNat) (l0_2.take ((ji8) : Int).toNat) t600 t604 false)))) else (foghornlaw18_FieldRings.j1 kj14 (l0_0.take ((ji2) : Int).toNat) (l0_1.take ((ji5) : Int).toNat) (l0_2.take ((ji8) : Int).toNat) t600 t604 true))) else (foghornlaw18_FieldRings.j1 kj14 (l0_0.take ((ji2) : Int).toNat) (l0_1.take ((ji5) : Int).toNat) (l0_2.take ((ji8) : Int).toNat) t600 t604 true))) else (foghornlaw18_FieldRings.j1 kj14 (l0_0.take ((ji2) : Int).toNat) (l0_1.take ((ji5) : Int).toNat) (l0_2.take ((ji8) : Int).toNat) t600 t604 true)) else (foghornlaw18_FieldRings.j1 kj14 (l0_0.take ((ji2) : Int).toNat) (l0_1.take ((ji5) : Int).toNat) (l0_2.take ((ji8) : Int).toNat) t600 t604 true)))))) = some r := by rw [if_neg (show ¬ (false = true) by decide)] at H; exact H
                    clear H
                    have H := H1
                    clear H1
                    replace H := Option.bind_eq_some_iff.mp H
                    obtain ⟨⟨t608, t609⟩, A290, H⟩ := H
                    replace H : ((field_At.f (l0_1.take ((ji5) : Int).toNat) a0_3).bind fun bt610 => ((field_At.f t592 a0_3).bind fun bt612 => ((field_At.f t596 a0_3).bind fun bt614 => (if bt612.2 = 0 then (if bt614.2 = 0 then ((field_Plus.f t608 bt610.1).bind fun t616 => (if bt612.1 = t616 then ((field_Times.f kj14 t608 bt610.1).bind fun t617 => (if bt614.1 = t617 then (if (t600.length : Int) > 0 then (if (t604.length : Int) > 0 then ((foghornlaw18_degree.f t596).bind fun t618 => ((foghornlaw18_degree.f t600).bind fun t619 => ((foghornlaw18_degree.f t604).bind fun t620 => (if t618 = (wrap64 (t619 + t620)) then (if (t600.length : Int) = 0 then (foghornlaw18_FieldRings.j1 kj14 (l0_0.take ((ji2) : Int).toNat) (l0_1.take ((ji5) : Int).toNat) (l0_2.take ((ji8) : Int).toNat) t600 t604 ((t596.length : Int) != 0)) else (if (t604.length : Int) = 0 then (foghornlaw18_FieldRings.j1 kj14 (l0_0.take ((ji2) : Int).toNat) (l0_1.take ((ji5) : Int).toNat) (l0_2.take ((ji8) : Int).toNat) t600 t604 ((t596.length : Int) != 0)) else (foghornlaw18_FieldRings.j1 kj14 (l0_0.take ((ji2) : Int).toNat) (l0_1.take ((ji5) : Int).toNat) (l0_2.take ((ji8) : Int).toNat) t600 t604 false))) else (foghornlaw18_FieldRings.j1 kj14 (l0_0.take ((ji2) : Int).toNat) (l0_1.take ((ji5) : Int).toNat) (l0_2.take ((ji8) : Int).toNat) t600 t604 true))))) else (if (t600.length : Int) = 0 then (foghornlaw18_FieldRings.j1 kj14 (l0_0.take ((ji2) : Int).toNat) (l0_1.take ((ji5) : Int).toNat) (l0_2.take ((ji8) : Int).toNat) t600 t604 ((t596.length : Int) != 0)) else (if (t604.length : Int) = 0 then (foghornlaw18_FieldRings.j1 kj14 (l0_0.take ((ji2) : Int).toNat) (l0_1.take ((ji5) : Int).toNat) (l0_2.take ((ji8) : Int).toNat) t600 t604 ((t596.length : Int) != 0)) else (foghornlaw18_FieldRings.j1 kj14 (l0_0.take ((ji2) : Int).toNat) (l0_1.take ((ji5) : Int).toNat) (l0_2.take ((ji8) : Int).toNat) t600 t604 false)))) else (if (t600.length : Int) = 0 then (foghornlaw18_FieldRings.j1 kj14 (l0_0.take ((ji2) : Int).toNat) (l0_1.take ((ji5) : Int).toNat) (l0_2.take ((ji8) : Int).toNat) t600 t604 ((t596.length : Int) != 0)) else (if (t604.length : Int) = 0 then (foghornlaw18_FieldRings.j1 kj14 (l0_0.take ((ji2) : Int).toNat) (l0_1.take ((ji5) : Int).toNat) (l0_2.take ((ji8) : Int).toNat) t600 t604 ((t596.length : Int) != 0)) else (foghornlaw18_FieldRings.j1 kj14 (l0_0.take ((ji2) : Int).toNat) (l0_1.take ((ji5) : Int).toNat) (l0_2.take ((ji8) : Int).toNat) t600 t604 false)))) else (foghornlaw18_FieldRings.j1 kj14 (l0_0.take ((ji2) : Int).toNat) (l0_1.take ((ji5) : Int).toNat) (l0_2.take ((ji8) : Int).toNat) t600 t604 true))) else (foghornlaw18_FieldRings.j1 kj14 (l0_0.take ((ji2) : Int).toNat) (l0_1.take ((ji5) : Int).toNat) (l0_2.take ((ji8) : Int).toNat) t600 t604 true))) else (foghornlaw18_FieldRings.j1 kj14 (l0_0.take ((ji2) : Int).toNat) (l0_1.take ((ji5) : Int).toNat) (l0_2.take ((ji8) : Int).toNat) t600 t604 true)) else (foghornlaw18_FieldRings.j1 kj14 (l0_0.take ((ji2) : Int).toNat) (l0_1.take ((ji5) : Int).toNat) (l0_2.take ((ji8) : Int).toNat) t600 t604 true))))) = some r := H
                    have A29 := Aside0.mk A290
                    clear A290
                    replace H := Option.bind_eq_some_iff.mp H
                    obtain ⟨⟨t610, t611⟩, A300, H⟩ := H
                    replace H : ((field_At.f t592 a0_3).bind fun bt612 => ((field_At.f t596 a0_3).bind fun bt614 => (if bt612.2 = 0 then (if bt614.2 = 0 then ((field_Plus.f t608 t610).bind fun t616 => (if bt612.1 = t616 then ((field_Times.f kj14 t608 t610).bind fun t617 => (if bt614.1 = t617 then (if (t600.length : Int) > 0 then (if (t604.length : Int) > 0 then ((foghornlaw18_degree.f t596).bind fun t618 => ((foghornlaw18_degree.f t600).bind fun t619 => ((foghornlaw18_degree.f t604).bind fun t620 => (if t618 = (wrap64 (t619 + t620)) then (if (t600.length : Int) = 0 then (foghornlaw18_FieldRings.j1 kj14 (l0_0.take ((ji2) : Int).toNat) (l0_1.take ((ji5) : Int).toNat) (l0_2.take ((ji8) : Int).toNat) t600 t604 ((t596.length : Int) != 0)) else (if (t604.length : Int) = 0 then (foghornlaw18_FieldRings.j1 kj14 (l0_0.take ((ji2) : Int).toNat) (l0_1.take ((ji5) : Int).toNat) (l0_2.take ((ji8) : Int).toNat) t600 t604 ((t596.length : Int) != 0)) else (foghornlaw18_FieldRings.j1 kj14 (l0_0.take ((ji2) : Int).toNat) (l0_1.take ((ji5) : Int).toNat) (l0_2.take ((ji8) : Int).toNat) t600 t604 false))) else (foghornlaw18_FieldRings.j1 kj14 (l0_0.take ((ji2) : Int).toNat) (l0_1.take ((ji5) : Int).toNat) (l0_2.take ((ji8) : Int).toNat) t600 t604 true))))) else (if (t600.length : Int) = 0 then (foghornlaw18_FieldRings.j1 kj14 (l0_0.take ((ji2) : Int).toNat) (l0_1.take ((ji5) : Int).toNat) (l0_2.take ((ji8) : Int).toNat) t600 t604 ((t596.length : Int) != 0)) else (if (t604.length : Int) = 0 then (foghornlaw18_FieldRings.j1 kj14 (l0_0.take ((ji2) : Int).toNat) (l0_1.take ((ji5) : Int).toNat) (l0_2.take ((ji8) : Int).toNat) t600 t604 ((t596.length : Int) != 0)) else (foghornlaw18_FieldRings.j1 kj14 (l0_0.take ((ji2) : Int).toNat) (l0_1.take ((ji5) : Int).toNat) (l0_2.take ((ji8) : Int).toNat) t600 t604 false)))) else (if (t600.length : Int) = 0 then (foghornlaw18_FieldRings.j1 kj14 (l0_0.take ((ji2) : Int).toNat) (l0_1.take ((ji5) : Int).toNat) (l0_2.take ((ji8) : Int).toNat) t600 t604 ((t596.length : Int) != 0)) else (if (t604.length : Int) = 0 then (foghornlaw18_FieldRings.j1 kj14 (l0_0.take ((ji2) : Int).toNat) (l0_1.take ((ji5) : Int).toNat) (l0_2.take ((ji8) : Int).toNat) t600 t604 ((t596.length : Int) != 0)) else (foghornlaw18_FieldRings.j1 kj14 (l0_0.take ((ji2) : Int).toNat) (l0_1.take ((ji5) : Int).toNat) (l0_2.take ((ji8) : Int).toNat) t600 t604 false)))) else (foghornlaw18_FieldRings.j1 kj14 (l0_0.take ((ji2) : Int).toNat) (l0_1.take ((ji5) : Int).toNat) (l0_2.take ((ji8) : Int).toNat) t600 t604 true))) else (foghornlaw18_FieldRings.j1 kj14 (l0_0.take ((ji2) : Int).toNat) (l0_1.take ((ji5) : Int).toNat) (l0_2.take ((ji8) : Int).toNat) t600 t604 true))) else (foghornlaw18_FieldRings.j1 kj14 (l0_0.take ((ji2) : Int).toNat) (l0_1.take ((ji5) : Int).toNat) (l0_2.take ((ji8) : Int).toNat) t600 t604 true)) else (foghornlaw18_FieldRings.j1 kj14 (l0_0.take ((ji2) : Int).toNat) (l0_1.take ((ji5) : Int).toNat) (l0_2.take ((ji8) : Int).toNat) t600 t604 true)))) = some r := H
                    have A30 := Aside0.mk A300
                    clear A300
                    replace H := Option.bind_eq_some_iff.mp H
                    obtain ⟨⟨t612, t613⟩, A310, H⟩ := H
                    replace H : ((field_At.f t596 a0_3).bind fun bt614 => (if t613 = 0 then (if bt614.2 = 0 then ((field_Plus.f t608 t610).bind fun t616 => (if t612 = t616 then ((field_Times.f kj14 t608 t610).bind fun t617 => (if bt614.1 = t617 then (if (t600.length : Int) > 0 then (if (t604.length : Int) > 0 then ((foghornlaw18_degree.f t596).bind fun t618 => ((foghornlaw18_degree.f t600).bind fun t619 => ((foghornlaw18_degree.f t604).bind fun t620 => (if t618 = (wrap64 (t619 + t620)) then (if (t600.length : Int) = 0 then (foghornlaw18_FieldRings.j1 kj14 (l0_0.take ((ji2) : Int).toNat) (l0_1.take ((ji5) : Int).toNat) (l0_2.take ((ji8) : Int).toNat) t600 t604 ((t596.length : Int) != 0)) else (if (t604.length : Int) = 0 then (foghornlaw18_FieldRings.j1 kj14 (l0_0.take ((ji2) : Int).toNat) (l0_1.take ((ji5) : Int).toNat) (l0_2.take ((ji8) : Int).toNat) t600 t604 ((t596.length : Int) != 0)) else (foghornlaw18_FieldRings.j1 kj14 (l0_0.take ((ji2) : Int).toNat) (l0_1.take ((ji5) : Int).toNat) (l0_2.take ((ji8) : Int).toNat) t600 t604 false))) else (foghornlaw18_FieldRings.j1 kj14 (l0_0.take ((ji2) : Int).toNat) (l0_1.take ((ji5) : Int).toNat) (l0_2.take ((ji8) : Int).toNat) t600 t604 true))))) else (if (t600.length : Int) = 0 then (foghornlaw18_FieldRings.j1 kj14 (l0_0.take ((ji2) : Int).toNat) (l0_1.take ((ji5) : Int).toNat) (l0_2.take ((ji8) : Int).toNat) t600 t604 ((t596.length : Int) != 0)) else (if (t604.length : Int) = 0 then (foghornlaw18_FieldRings.j1 kj14 (l0_0.take ((ji2) : Int).toNat) (l0_1.take ((ji5) : Int).toNat) (l0_2.take ((ji8) : Int).toNat) t600 t604 ((t596.length : Int) != 0)) else (foghornlaw18_FieldRings.j1 kj14 (l0_0.take ((ji2) : Int).toNat) (l0_1.take ((ji5) : Int).toNat) (l0_2.take ((ji8) : Int).toNat) t600 t604 false)))) else (if (t600.length : Int) = 0 then (foghornlaw18_FieldRings.j1 kj14 (l0_0.take ((ji2) : Int).toNat) (l0_1.take ((ji5) : Int).toNat) (l0_2.take ((ji8) : Int).toNat) t600 t604 ((t596.length : Int) != 0)) else (if (t604.length : Int) = 0 then (foghornlaw18_FieldRings.j1 kj14 (l0_0.take ((ji2) : Int).toNat) (l0_1.take ((ji5) : Int).toNat) (l0_2.take ((ji8) : Int).toNat) t600 t604 ((t596.length : Int) != 0)) else (foghornlaw18_FieldRings.j1 kj14 (l0_0.take ((ji2) : Int).toNat) (l0_1.take ((ji5) : Int).toNat) (l0_2.take ((ji8) : Int).toNat) t600 t604 false)))) else (foghornlaw18_FieldRings.j1 kj14 (l0_0.take ((ji2) : Int).toNat) (l0_1.take ((ji5) : Int).toNat) (l0_2.take ((ji8) : Int).toNat) t600 t604 true))) else (foghornlaw18_FieldRings.j1 kj14 (l0_0.take ((ji2) : Int).toNat) (l0_1.take ((ji5) : Int).toNat) (l0_2.take ((ji8) : Int).toNat) t600 t604 true))) else (foghornlaw18_FieldRings.j1 kj14 (l0_0.take ((ji2) : Int).toNat) (l0_1.take ((ji5) : Int).toNat) (l0_2.take ((ji8) : Int).toNat) t600 t604 true)) else (foghornlaw18_FieldRings.j1 kj14 (l0_0.take ((ji2) : Int).toNat) (l0_1.take ((ji5) : Int).toNat) (l0_2.take ((ji8) : Int).toNat) t600 t604 true))) = some r := H
                    have A31 := Aside0.mk A310
                    clear A310
                    replace H := Option.bind_eq_some_iff.mp H
                    obtain ⟨⟨t614, t615⟩, A320, H⟩ := H
                    replace H : (if t613 = 0 then (if t615 = 0 then ((field_Plus.f t608 t610).bind fun t616 => (if t612 = t616 then ((field_Times.f kj14 t608 t610).bind fun t617 => (if t614 = t617 then (if (t600.length : Int) > 0 then (if (t604.length : Int) > 0 then ((foghornlaw18_degree.f t596).bind fun t618 => ((foghornlaw18_degree.f t600).bind fun t619 => ((foghornlaw18_degree.f t604).bind fun t620 => (if t618 = (wrap64 (t619 + t620)) then (if (t600.length : Int) = 0 then (foghornlaw18_FieldRings.j1 kj14 (l0_0.take ((ji2) : Int).toNat) (l0_1.take ((ji5) : Int).toNat) (l0_2.take ((ji8) : Int).toNat) t600 t604 ((t596.length : Int) != 0)) else (if (t604.length : Int) = 0 then (foghornlaw18_FieldRings.j1 kj14 (l0_0.take ((ji2) : Int).toNat) (l0_1.take ((ji5) : Int).toNat) (l0_2.take ((ji8) : Int).toNat) t600 t604 ((t596.length : Int) != 0)) else (foghornlaw18_FieldRings.j1 kj14 (l0_0.take ((ji2) : Int).toNat) (l0_1.take ((ji5) : Int).toNat) (l0_2.take ((ji8) : Int).toNat) t600 t604 false))) else (foghornlaw18_FieldRings.j1 kj14 (l0_0.take ((ji2) : Int).toNat) (l0_1.take ((ji5) : Int).toNat) (l0_2.take ((ji8) : Int).toNat) t600 t604 true))))) else (if (t600.length : Int) = 0 then (foghornlaw18_FieldRings.j1 kj14 (l0_0.take ((ji2) : Int).toNat) (l0_1.take ((ji5) : Int).toNat) (l0_2.take ((ji8) : Int).toNat) t600 t604 ((t596.length : Int) != 0)) else (if (t604.length : Int) = 0 then (foghornlaw18_FieldRings.j1 kj14 (l0_0.take ((ji2) : Int).toNat) (l0_1.take ((ji5) : Int).toNat) (l0_2.take ((ji8) : Int).toNat) t600 t604 ((t596.length : Int) != 0)) else (foghornlaw18_FieldRings.j1 kj14 (l0_0.take ((ji2) : Int).toNat) (l0_1.take ((ji5) : Int).toNat) (l0_2.take ((ji8) : Int).toNat) t600 t604 false)))) else (if (t600.length : Int) = 0 then (foghornlaw18_FieldRings.j1 kj14 (l0_0.take ((ji2) : Int).toNat) (l0_1.take ((ji5) : Int).toNat) (l0_2.take ((ji8) : Int).toNat) t600 t604 ((t596.length : Int) != 0)) else (if (t604.length : Int) = 0 then (foghornlaw18_FieldRings.j1 kj14 (l0_0.take ((ji2) : Int).toNat) (l0_1.take ((ji5) : Int).toNat) (l0_2.take ((ji8) : Int).toNat) t600 t604 ((t596.length : Int) != 0)) else (foghornlaw18_FieldRings.j1 kj14 (l0_0.take ((ji2) : Int).toNat) (l0_1.take ((ji5) : Int).toNat) (l0_2.take ((ji8) : Int).toNat) t600 t604 false)))) else (foghornlaw18_FieldRings.j1 kj14 (l0_0.take ((ji2) : Int).toNat) (l0_1.take ((ji5) : Int).toNat) (l0_2.take ((ji8) : Int).toNat) t600 t604 true))) else (foghornlaw18_FieldRings.j1 kj14 (l0_0.take ((ji2) : Int).toNat) (l0_1.take ((ji5) : Int).toNat) (l0_2.take ((ji8) : Int).toNat) t600 t604 true))) else (foghornlaw18_FieldRings.j1 kj14 (l0_0.take ((ji2) : Int).toNat) (l0_1.take ((ji5) : Int).toNat) (l0_2.take ((ji8) : Int).toNat) t600 t604 true)) else (foghornlaw18_FieldRings.j1 kj14 (l0_0.take ((ji2) : Int).toNat) (l0_1.take ((ji5) : Int).toNat) (l0_2.take ((ji8) : Int).toNat) t600 t604 true)) = some r := H
                    have A32 := Aside0.mk A320
                    clear A320
                    have HC33 := Aside0.mk H
                    clear H
                    go_upto_region 15 with (first | ((with_reducible refine gate_callee (f := 51) rfl ?_); refine goesL_ (some 98) rfl rfl Try.func51 (by kernel_rfl) rfl #[.slice A0_0 (l0_0.take ((ji2) : Int).toNat).length c0_0, .int .u8 a0_3] rfl (by (try simp only [List.map_toArray, List.map_cons, List.map_nil]); first | done | (rw [show (l0_0.take ((ji2) : Int).toNat).length = (ji2).toNat from (by rw [List.length_take]; have h_ : ((ji2) : Int) ≤ (l0_0.length : Int) := (by first | exact of_decide_eq_true (by first | (with_reducible assumption) | assumption) | (rw [← hji2]; unfold mn; split <;> omega)); omega)] <;> rfl) | (simp only [hji2]; rfl) | rfl | (simp only [List.length_drop, List.length_take]; rfl)) ?_; (with_reducible refine (field_At.calls (fun k_ => k_ < w.heap.size) _ _ (l0_0.take ((ji2) : Int).toNat) a0_3 t608 t609 _ ?side1 A29.out).mono ?_); (case side1 => exact Kd.V_mk HC589.out (Kd.F_below (Kd.C_F (Kd.heap_int .u8) HR589.out) (by repeat (first | (with_reducible first | exact HB.out | apply below_alloc | apply pw_below_drewN | apply below_drew1 | refine below_set ?_ GE588.out) | exact HB.out)))); rintro e w34 ⟨rfl, hb⟩; refine ⟨_, rfl, ?_⟩; have n0_ := Aside0.mk (Kd.R_below (by (with_reducible repeat (first | apply Kd.R_alloc | apply Kd.R_drewN | apply Kd.R_drew)); exact HO_7.out) hb); have n1_ := Aside0.mk (Kd.R_below (by (with_reducible repeat (first | apply Kd.R_alloc | apply Kd.R_drewN | apply Kd.R_drew)); exact HO_9.out) hb); have n2_ := Aside0.mk (Kd.R_below (by (with_reducible repeat (first | apply Kd.R_alloc | apply Kd.R_drewN | apply Kd.R_drew)); exact HO_11.out) hb); have n3_ := Aside0.mk (Kd.R_below (by (with_reducible repeat (first | apply Kd.R_alloc | apply Kd.R_drewN | apply Kd.R_drew)); exact HO_13.out) hb); have n4_ := Aside0.mk (blk_below (g := gb588) (o := .cells #[.slice A0_0 l0_0.length c0_0, .slice A0_1 l0_1.length c0_1, .slice A0_2 l0_2.length c0_2, .int .u8 a0_3] 63 (0, 0)) (by (with_reducible repeat (first | refine blk_drewN ?_ _ | refine blk_drew ?_ | refine blk_alloc ?_ _)); exact BK588.out) hb); have n5_ := Aside0.mk (below_step (by repeat (first | (with_reducible first | exact HB.out | apply below_alloc | apply pw_below_drewN | apply below_drew1 | refine below_set ?_ GE588.out) | exact HB.out)) hb); clear HO_7; clear HO_9; clear HO_11; clear HO_13; clear BK588; clear HB; have HO_7 := n0_; have HO_9 := n1_; have HO_11 := n2_; have HO_13 := n3_; have BK588 := n4_; have HB := n5_; clear n0_ n1_ n2_ n3_ n4_ n5_; (try clear hb); (try clear hb2); (try clear hk); (try clear hi)) | ((with_reducible refine gate_callee (f := 51) rfl ?_); refine goesL_ (some 104) rfl rfl Try.func51 (by kernel_rfl) rfl #[.slice A0_1 (l0_1.take ((ji5) : Int).toNat).length c0_1, .int .u8 a0_3] rfl (by (try simp only [List.map_toArray, List.map_cons, List.map_nil]); first | done | (rw [show (l0_1.take ((ji5) : Int).toNat).length = (ji5).toNat from (by rw [List.length_take]; have h_ : ((ji5) : Int) ≤ (l0_1.length : Int) := (by first | exact of_decide_eq_true (by first | (with_reducible assumption) | assumption) | (rw [← hji5]; unfold mn; split <;> omega)); omega)] <;> rfl) | (simp only [hji5]; rfl) | rfl | (simp only [List.length_drop, List.length_take]; rfl)) ?_; (with_reducible refine (field_At.calls (fun k_ => k_ < w.heap.size) _ _ (l0_1.take ((ji5) : Int).toNat) a0_3 t610 t611 _ ?side1 A30.out).mono ?_); (case side1 => exact Kd.V_mk HC590.out (Kd.F_below (Kd.C_F (Kd.heap_int .u8) HR590.out) (by repeat (first | (with_reducible first | exact HB.out | apply below_alloc | apply pw_below_drewN | apply below_drew1 | refine below_set ?_ GE588.out) | exact HB.out)))); rintro e w35 ⟨rfl, hb⟩; refine ⟨_, rfl, ?_⟩; have n0_ := Aside0.mk (Kd.R_below (by (with_reducible repeat (first | apply Kd.R_alloc | apply Kd.R_drewN | apply Kd.R_drew)); exact HO_7.out) hb); have n1_ := Aside0.mk (Kd.R_below (by (with_reducible repeat (first | apply Kd.R_alloc | apply Kd.R_drewN | apply Kd.R_drew)); exact HO_9.out) hb); have n2_ := Aside0.mk (Kd.R_below (by (with_reducible repeat (first | apply Kd.R_alloc | apply Kd.R_drewN | apply Kd.R_drew)); exact HO_11.out) hb); have n3_ := Aside0.mk (Kd.R_below (by (with_reducible repeat (first | apply Kd.R_alloc | apply Kd.R_drewN | apply Kd.R_drew)); exact HO_13.out) hb); have n4_ := Aside0.mk (blk_below (g := gb588) (o := .cells #[.slice A0_0 l0_0.length c0_0, .slice A0_1 l0_1.length c0_1, .slice A0_2 l0_2.length c0_2, .int .u8 a0_3] 63 (0, 0)) (by (with_reducible repeat (first | refine blk_drewN ?_ _ | refine blk_drew ?_ | refine blk_alloc ?_ _)); exact BK588.out) hb); have n5_ := Aside0.mk (below_step (by repeat (first | (with_reducible first | exact HB.out | apply below_alloc | apply pw_below_drewN | apply below_drew1 | refine below_set ?_ GE588.out) | exact HB.out)) hb); clear HO_7; clear HO_9; clear HO_11; clear HO_13; clear BK588; clear HB; have HO_7 := n0_; have HO_9 := n1_; have HO_11 := n2_; have HO_13 := n3_; have BK588 := n4_; have HB := n5_; clear n0_ n1_ n2_ n3_ n4_ n5_; (try clear hb); (try clear hb2); (try clear hk); (try clear hi); obtain ⟨Ao36, co36, eo36⟩ := Kd.R_slice HO_7.out; subst eo36) | ((with_reducible refine gate_callee (f := 51) rfl ?_); refine goesL_ (some 110) rfl rfl Try.func51 (by kernel_rfl) rfl #[.slice Ao36 t592.length co36, .int .u8 a0_3] rfl (by (try simp only [List.map_toArray, List.map_cons, List.map_nil]); first | done | rfl | (simp only [List.length_drop, List.length_take]; rfl)) ?_; (with_reducible refine (field_At.calls (fun k_ => some k_ = (.slice Ao36 t592.length co36 : Value).ownBlock) _ _ t592 a0_3 t612 t613 _ ?side1 A31.out).mono ?_); (case side1 => exact Kd.R_V (Kd.R_tight rfl (Kd.R_types (HO_7.out) BK588.out (by decide)))); rintro e w37 ⟨rfl, hb⟩; refine ⟨_, rfl, ?_⟩; have n0_ := Aside0.mk (Kd.R_below (by (with_reducible repeat (first | apply Kd.R_alloc | apply Kd.R_drewN | apply Kd.R_drew)); exact HO_7.out) hb); have n1_ := Aside0.mk (Kd.R_below (by (with_reducible repeat (first | apply Kd.R_alloc | apply Kd.R_drewN | apply Kd.R_drew)); exact HO_9.out) hb); have n2_ := Aside0.mk (Kd.R_below (by (with_reducible repeat (first | apply Kd.R_alloc | apply Kd.R_drewN | apply Kd.R_drew)); exact HO_11.out) hb); have n3_ := Aside0.mk (Kd.R_below (by (with_reducible repeat (first | apply Kd.R_alloc | apply Kd.R_drewN | apply Kd.R_drew)); exact HO_13.out) hb); have n4_ := Aside0.mk (blk_below (g := gb588) (o := .cells #[.slice A0_0 l0_0.length c0_0, .slice A0_1 l0_1.length c0_1, .slice A0_2 l0_2.length c0_2, .int .u8 a0_3] 63 (0, 0)) (by (with_reducible repeat (first | refine blk_drewN ?_ _ | refine blk_drew ?_ | refine blk_alloc ?_ _)); exact BK588.out) hb); have n5_ := Aside0.mk (below_step (by repeat (first | (with_reducible first | exact HB.out | apply below_alloc | apply pw_below_drewN | apply below_drew1 | refine below_set ?_ GE588.out) | exact HB.out)) hb); clear HO_7; clear HO_9; clear HO_11; clear HO_13; clear BK588; clear HB; have HO_7 := n0_; have HO_9 := n1_; have HO_11 := n2_; have HO_13 := n3_; have BK588 := n4_; have HB := n5_; clear n0_ n1_ n2_ n3_ n4_ n5_; (try clear hb); (try clear hb2); (try clear hk); (try clear hi); obtain ⟨Ao38, co38, eo38⟩ := Kd.R_slice HO_9.out; subst eo38) | ((with_reducible refine gate_callee (f := 51) rfl ?_); refine goesL_ (some 116) rfl rfl Try.func51 (by kernel_rfl) rfl #[.slice Ao38 t596.length co38, .int .u8 a0_3] rfl (by (try simp only [List.map_toArray, List.map_cons, List.map_nil]); first | done | rfl | (simp only [List.length_drop, List.length_take]; rfl)) ?_; (with_reducible refine (field_At.calls (fun k_ => some k_ = (.slice Ao38 t596.length co38 : Value).ownBlock) _ _ t596 a0_3 t614 t615 _ ?side1 A32.out).mono ?_); (case side1 => exact Kd.R_V (Kd.R_tight rfl (Kd.R_types (HO_9.out) BK588.out (by decide)))); rintro e w39 ⟨rfl, hb⟩; refine ⟨_, rfl, ?_⟩; have n0_ := Aside0.mk (Kd.R_below (by (with_reducible repeat (first | apply Kd.R_alloc | apply Kd.R_drewN | apply Kd.R_drew)); exact HO_7.out) hb); have n1_ := Aside0.mk (Kd.R_below (by (with_reducible repeat (first | apply Kd.R_alloc | apply Kd.R_drewN | apply Kd.R_drew)); exact HO_9.out) hb); have n2_ := Aside0.mk (Kd.R_below (by (with_reducible repeat (first | apply Kd.R_alloc | apply Kd.R_drewN | apply Kd.R_drew)); exact HO_11.out) hb); have n3_ := Aside0.mk (Kd.R_below (by (with_reducible repeat (first | apply Kd.R_alloc | apply Kd.R_drewN | apply Kd.R_drew)); exact HO_13.out) hb); have n4_ := Aside0.mk (blk_below (g := gb588) (o := .cells #[.slice A0_0 l0_0.length c0_0, .slice A0_1 l0_1.length c0_1, .slice A0_2 l0_2.length c0_2, .int .u8 a0_3] 63 (0, 0)) (by (with_reducible repeat (first | refine blk_drewN ?_ _ | refine blk_drew ?_ | refine blk_alloc ?_ _)); exact BK588.out) hb); have n5_ := Aside0.mk (below_step (by repeat (first | (with_reducible first | exact HB.out | apply below_alloc | apply pw_below_drewN | apply below_drew1 | refine below_set ?_ GE588.out) | exact HB.out)) hb); clear HO_7; clear HO_9; clear HO_11; clear HO_13; clear BK588; clear HB; have HO_7 := n0_; have HO_9 := n1_; have HO_11 := n2_; have HO_13 := n3_; have BK588 := n4_; have HB := n5_; clear n0_ n1_ n2_ n3_ n4_ n5_; (try clear hb); (try clear hb2); (try clear hk); (try clear hi)))
                    (try simp only [Act.put, List.setIfInBounds_toArray, List.set_cons_zero, List.set_cons_succ])
                    go_cut [173] (fun v173 wc => ∃ (kq : Nat) (x173_32 : Bool), v173 = .bool x173_32 ∧ Aside0 (foghornlaw18_FieldRings.j1 kq (l0_0.take ((ji2) : Int).toNat) (l0_1.take ((ji5) : Int).toNat) (l0_2.take ((ji8) : Int).toNat) t600 t604 x173_32 = some r) ∧ Aside0 (kq ≤ kj14) ∧ Aside0 (Kd.R (Kd.int .u8) 5 wc w.heap.size (fun k_ => some k_ ≠ (v605 : Value).ownBlock) v601 t600) ∧ Aside0 (Kd.R (Kd.int .u8) 5 wc w.heap.size (fun k_ => some k_ ≠ (v601 : Value).ownBlock) v605 t604) ∧ Aside0 (wc.heap[gb588]? = some (.cells #[(.slice A0_0 l0_0.length c0_0), (.slice A0_1 l0_1.length c0_1), (.slice A0_2 l0_2.length c0_2), .int .u8 a0_3] 63 (0, 0))) ∧ Aside0 (Below w.heap.size w wc))
                    case first =>
                      have H := HC33.out
                      clear HC33
                      by_cases c40 : t613 = 0
                      · rw [if_pos c40] at H
                        have c40b0 : (t613 == 0) = true := beq_iff_eq.mpr c40
                        have c40b1 : (t613 != 0) = false := bne_eq_false_iff_eq.mpr c40
                        clear c40
                        (first | rw [c40b0] | (simp only [i64_w, i32_w]; rw [c40b0]) | skip)
                        by_cases c41 : t615 = 0
                        · rw [if_pos c41] at H
                          have c41b0 : (t615 == 0) = true := beq_iff_eq.mpr c41
                          have c41b1 : (t615 != 0) = false := bne_eq_false_iff_eq.mpr c41
                          clear c41
                          replace H := Option.bind_eq_some_iff.mp H
                          obtain ⟨t616, A420, H⟩ := H
                          replace H : (if t612 = t616 then ((field_Times.f kj14 t608 t610).bind fun t617 => (if t614 = t617 then (if (t600.length : Int) > 0 then (if (t604.length : Int) > 0 then ((foghornlaw18_degree.f t596).bind fun t618 => ((foghornlaw18_degree.f t600).bind fun t619 => ((foghornlaw18_degree.f t604).bind fun t620 => (if t618 = (wrap64 (t619 + t620)) then (if (t600.length : Int) = 0 then (foghornlaw18_FieldRings.j1 kj14 (l0_0.take ((ji2) : Int).toNat) (l0_1.take ((ji5) : Int).toNat) (l0_2.take ((ji8) : Int).toNat) t600 t604 ((t596.length : Int) != 0)) else (if (t604.length : Int) = 0 then (foghornlaw18_FieldRings.j1 kj14 (l0_0.take ((ji2) : Int).toNat) (l0_1.take ((ji5) : Int).toNat) (l0_2.take ((ji8) : Int).toNat) t600 t604 ((t596.length : Int) != 0)) else (foghornlaw18_FieldRings.j1 kj14 (l0_0.take ((ji2) : Int).toNat) (l0_1.take ((ji5) : Int).toNat) (l0_2.take ((ji8) : Int).toNat) t600 t604 false))) else (foghornlaw18_FieldRings.j1 kj14 (l0_0.take ((ji2) : Int).toNat) (l0_1.take ((ji5) : Int).toNat) (l0_2.take ((ji8) : Int).toNat) t600 t604 true))))) else (if (t600.length : Int) = 0 then (foghornlaw18_FieldRings.j1 kj14 (l0_0.take ((ji2) : Int).toNat) (l0_1.take ((ji5) : Int).toNat) (l0_2.take ((ji8) : Int).toNat) t600 t604 ((t596.length : Int) != 0)) else (if (t604.length : Int) = 0 then (foghornlaw18_FieldRings.j1 kj14 (l0_0.take ((ji2) : Int).toNat) (l0_1.take ((ji5) : Int).toNat) (l0_2.take ((ji8) : Int).toNat) t600 t604 ((t596.length : Int) != 0)) else (foghornlaw18_FieldRings.j1 kj14 (l0_0.take ((ji2) : Int).toNat) (l0_1.take ((ji5) : Int).toNat) (l0_2.take ((ji8) : Int).toNat) t600 t604 false)))) else (if (t600.length : Int) = 0 then (foghornlaw18_FieldRings.j1 kj14 (l0_0.take ((ji2) : Int).toNat) (l0_1.take ((ji5) : Int).toNat) (l0_2.take ((ji8) : Int).toNat) t600 t604 ((t596.length : Int) != 0)) else (if (t604.length : Int) = 0 then (foghornlaw18_FieldRings.j1 kj14 (l0_0.take ((ji2) : Int).toNat) (l0_1.take ((ji5) : Int).toNat) (l0_2.take ((ji8) : Int).toNat) t600 t604 ((t596.length : Int) != 0)) else (foghornlaw18_FieldRings.j1 kj14 (l0_0.take ((ji2) : Int).toNat) (l0_1.take ((ji5) : Int).toNat) (l0_2.take ((ji8) : Int).toNat) t600 t604 false)))) else (foghornlaw18_FieldRings.j1 kj14 (l0_0.take ((ji2) : Int).toNat) (l0_1.take ((ji5) : Int).toNat) (l0_2.take ((ji8) : Int).toNat) t600 t604 true))) else (foghornlaw18_FieldRings.j1 kj14 (l0_0.take ((ji2) : Int).toNat) (l0_1.take ((ji5) : Int).toNat) (l0_2.take ((ji8) : Int).toNat) t600 t604 true)) = some r := H
                          have A42 := Aside0.mk A420
                          clear A420
                          by_cases c43 : t612 = t616
                          · rw [if_pos c43] at H
                            have c43b0 : (t612 == t616) = true := beq_iff_eq.mpr c43
                            have c43b1 : (t612 != t616) = false := bne_eq_false_iff_eq.mpr c43
                            clear c43
                            replace H := Option.bind_eq_some_iff.mp H
                            obtain ⟨t617, A440, H⟩ := H
                            replace H : (if t614 = t617 then (if (t600.length : Int) > 0 then (if (t604.length : Int) > 0 then ((foghornlaw18_degree.f t596).bind fun t618 => ((foghornlaw18_degree.f t600).bind fun t619 => ((foghornlaw18_degree.f t604).bind fun t620 => (if t618 = (wrap64 (t619 + t620)) then (if (t600.length : Int) = 0 then (foghornlaw18_FieldRings.j1 kj14 (l0_0.take ((ji2) : Int).toNat) (l0_1.take ((ji5) : Int).toNat) (l0_2.take ((ji8) : Int).toNat) t600 t604 ((t596.length : Int) != 0)) else (if (t604.length : Int) = 0 then (foghornlaw18_FieldRings.j1 kj14 (l0_0.take ((ji2) : Int).toNat) (l0_1.take ((ji5) : Int).toNat) (l0_2.take ((ji8) : Int).toNat) t600 t604 ((t596.length : Int) != 0)) else (foghornlaw18_FieldRings.j1 kj14 (l0_0.take ((ji2) : Int).toNat) (l0_1.take ((ji5) : Int).toNat) (l0_2.take ((ji8) : Int).toNat) t600 t604 false))) else (foghornlaw18_FieldRings.j1 kj14 (l0_0.take ((ji2) : Int).toNat) (l0_1.take ((ji5) : Int).toNat) (l0_2.take ((ji8) : Int).toNat) t600 t604 true))))) else (if (t600.length : Int) = 0 then (foghornlaw18_FieldRings.j1 kj14 (l0_0.take ((ji2) : Int).toNat) (l0_1.take ((ji5) : Int).toNat) (l0_2.take ((ji8) : Int).toNat) t600 t604 ((t596.length : Int) != 0)) else (if (t604.length : Int) = 0 then (foghornlaw18_FieldRings.j1 kj14 (l0_0.take ((ji2) : Int).toNat) (l0_1.take ((ji5) : Int).toNat) (l0_2.take ((ji8) : Int).toNat) t600 t604 ((t596.length : Int) != 0)) else (foghornlaw18_FieldRings.j1 kj14 (l0_0.take ((ji2) : Int).toNat) (l0_1.take ((ji5) : Int).toNat) (l0_2.take ((ji8) : Int).toNat) t600 t604 false)))) else (if (t600.length : Int) = 0 then (foghornlaw18_FieldRings.j1 kj14 (l0_0.take ((ji2) : Int).toNat) (l0_1.take ((ji5) : Int).toNat) (l0_2.take ((ji8) : Int).toNat) t600 t604 ((t596.length : Int) != 0)) else (if (t604.length : Int) = 0 then (foghornlaw18_FieldRings.j1 kj14 (l0_0.take ((ji2) : Int).toNat) (l0_1.take ((ji5) : Int).toNat) (l0_2.take ((ji8) : Int).toNat) t600 t604 ((t596.length : Int) != 0)) else (foghornlaw18_FieldRings.j1 kj14 (l0_0.take ((ji2) : Int).toNat) (l0_1.take ((ji5) : Int).toNat) (l0_2.take ((ji8) : Int).toNat) t600 t604 false)))) else (foghornlaw18_FieldRings.j1 kj14 (l0_0.take ((ji2) : Int).toNat) (l0_1.take ((ji5) : Int).toNat) (l0_2.take ((ji8) : Int).toNat) t600 t604 true)) = some r := H
                            have A44 := Aside0.mk A440
                            clear A440
                            by_cases c45 : t614 = t617
                            · rw [if_pos c45] at H
                              have c45b0 : (t614 == t617) = true := beq_iff_eq.mpr c45
                              have c45b1 : (t614 != t617) = false := bne_eq_false_iff_eq.mpr c45
                              clear c45
                              by_cases c46 : (t600.length : Int) > 0
                              · rw [if_pos c46] at H
                                have c46b0 : decide (0 < (t600.length : Int)) = true := decide_eq_true c46
                                have c46b1 : decide (0 < t600.length) = true := decide_eq_true (by omega)
                                clear c46
                                by_cases c47 : (t604.length : Int) > 0
                                · rw [if_pos c47] at H
                                  have c47b0 : decide (0 < (t604.length : Int)) = true := decide_eq_true c47
                                  have c47b1 : decide (0 < t604.length) = true := decide_eq_true (by omega)
                                  clear c47
                                  replace H := Option.bind_eq_some_iff.mp H
                                  obtain ⟨t618, A480, H⟩ := H
                                  replace H : ((foghornlaw18_degree.f t600).bind fun t619 => ((foghornlaw18_degree.f t604).bind fun t620 => (if t618 = (wrap64 (t619 + t620)) then (if (t600.length : Int) = 0 then (foghornlaw18_FieldRings.j1 kj14 (l0_0.take ((ji2) : Int).toNat) (l0_1.take ((ji5) : Int).toNat) (l0_2.take ((ji8) : Int).toNat) t600 t604 ((t596.length : Int) != 0)) else (if (t604.length : Int) = 0 then (foghornlaw18_FieldRings.j1 kj14 (l0_0.take ((ji2) : Int).toNat) (l0_1.take ((ji5) : Int).toNat) (l0_2.take ((ji8) : Int).toNat) t600 t604 ((t596.length : Int) != 0)) else (foghornlaw18_FieldRings.j1 kj14 (l0_0.take ((ji2) : Int).toNat) (l0_1.take ((ji5) : Int).toNat) (l0_2.take ((ji8) : Int).toNat) t600 t604 false))) else (foghornlaw18_FieldRings.j1 kj14 (l0_0.take ((ji2) : Int).toNat) (l0_1.take ((ji5) : Int).toNat) (l0_2.take ((ji8) : Int).toNat) t600 t604 true)))) = some r := H
                                  have A48 := Aside0.mk A480
                                  clear A480
                                  replace H := Option.bind_eq_some_iff.mp H
                                  obtain ⟨t619, A490, H⟩ := H
                                  replace H : ((foghornlaw18_degree.f t604).bind fun t620 => (if t618 = (wrap64 (t619 + t620)) then (if (t600.length : Int) = 0 then (foghornlaw18_FieldRings.j1 kj14 (l0_0.take ((ji2) : Int).toNat) (l0_1.take ((ji5) : Int).toNat) (l0_2.take ((ji8) : Int).toNat) t600 t604 ((t596.length : Int) != 0)) else (if (t604.length : Int) = 0 then (foghornlaw18_FieldRings.j1 kj14 (l0_0.take ((ji2) : Int).toNat) (l0_1.take ((ji5) : Int).toNat) (l0_2.take ((ji8) : Int).toNat) t600 t604 ((t596.length : Int) != 0)) else (foghornlaw18_FieldRings.j1 kj14 (l0_0.take ((ji2) : Int).toNat) (l0_1.take ((ji5) : Int).toNat) (l0_2.take ((ji8) : Int).toNat) t600 t604 false))) else (foghornlaw18_FieldRings.j1 kj14 (l0_0.take ((ji2) : Int).toNat) (l0_1.take ((ji5) : Int).toNat) (l0_2.take ((ji8) : Int).toNat) t600 t604 true))) = some r := H
                                  have A49 := Aside0.mk A490
                                  clear A490
                                  replace H := Option.bind_eq_some_iff.mp H
                                  obtain ⟨t620, A500, H⟩ := H
                                  replace H : (if t618 = (wrap64 (t619 + t620)) then (if (t600.length : Int) = 0 then (foghornlaw18_FieldRings.j1 kj14 (l0_0.take ((ji2) : Int).toNat) (l0_1.take ((ji5) : Int).toNat) (l0_2.take ((ji8) : Int).toNat) t600 t604 ((t596.length : Int) != 0)) else (if (t604.length : Int) = 0 then (foghornlaw18_FieldRings.j1 kj14 (l0_0.take ((ji2) : Int).toNat) (l0_1.take ((ji5) : Int).toNat) (l0_2.take ((ji8) : Int).toNat) t600 t604 ((t596.length : Int) != 0)) else (foghornlaw18_FieldRings.j1 kj14 (l0_0.take ((ji2) : Int).toNat) (l0_1.take ((ji5) : Int).toNat) (l0_2.take ((ji8) : Int).toNat) t600 t604 false))) else (foghornlaw18_FieldRings.j1 kj14 (l0_0.take ((ji2) : Int).toNat) (l0_1.take ((ji5) : Int).toNat) (l0_2.take ((ji8) : Int).toNat) t600 t604 true)) = some r := H
                                  have A50 := Aside0.mk A500
                                  clear A500
                                  by_cases c51 : t618 = (wrap64 (t619 + t620))
                                  · rw [if_pos c51] at H
                                    have c51b0 : (t618 == (wrap64 (t619 + t620))) = true := beq_iff_eq.mpr c51
                                    have c51b1 : (t618 != (wrap64 (t619 + t620))) = false := bne_eq_false_iff_eq.mpr c51
                                    clear c51
                                    by_cases c52 : (t600.length : Int) = 0
                                    · rw [if_pos c52] at H
                                      have c52b0 : ((t600.length : Int) == 0) = true := beq_iff_eq.mpr c52
                                      have c52b1 : ((t600.length : Int) != 0) = false := bne_eq_false_iff_eq.mpr c52
                                      clear c52
                                      as_aux_lemma =>
                                        have H' := Aside0.mk H
                                        clear H
                                        go_wp2_with (first | (go_at_call 26; (with_reducible refine (field_Plus.calls t608 t610 t616 _ A42.out).mono ?_); rintro e w' ⟨rfl, ⟨nd, rfl⟩⟩) | (go_at_call 28; (with_reducible refine (field_Times.calls kj14 t608 t610 t617 _ A44.out).mono ?_); rintro e w' ⟨rfl, ⟨nd, rfl⟩⟩; obtain ⟨Ao53, co53, eo53⟩ := Kd.R_slice HO_11.out; subst eo53; obtain ⟨Ao54, co54, eo54⟩ := Kd.R_slice HO_13.out; subst eo54) | (go_at_call 52; (with_reducible refine (foghornlaw18_degree.calls _ _ t596 t618 _ ?side1 ?side2 A48.out).mono ?_); (case side1 => repeat (first | exact (Kd.R_reads' HO_9.out).2.2 | (with_reducible refine Kd.C_alloc ?_ _) | (with_reducible refine Kd.C_drewN ?_ _) | (with_reducible refine Kd.C_drew ?_))); (case side2 => exact (Kd.R_reads' HO_9.out).2.1); rintro e w' ⟨rfl, ⟨nd, rfl⟩⟩) | (go_at_call 52; (with_reducible refine (foghornlaw18_degree.calls _ _ t600 t619 _ ?side1 ?side2 A49.out).mono ?_); (case side1 => repeat (first | exact (Kd.R_reads' HO_11.out).2.2 | (with_reducible refine Kd.C_alloc ?_ _) | (with_reducible refine Kd.C_drewN ?_ _) | (with_reducible refine Kd.C_drew ?_))); (case side2 => exact (Kd.R_reads' HO_11.out).2.1); rintro e w' ⟨rfl, ⟨nd, rfl⟩⟩) | (go_at_call 52; (with_reducible refine (foghornlaw18_degree.calls _ _ t604 t620 _ ?side1 ?side2 A50.out).mono ?_); (case side1 => repeat (first | exact (Kd.R_reads' HO_13.out).2.2 | (with_reducible refine Kd.C_alloc ?_ _) | (with_reducible refine Kd.C_drewN ?_ _) | (with_reducible refine Kd.C_drew ?_))); (case side2 => exact (Kd.R_reads' HO_13.out).2.1); rintro e w' ⟨rfl, ⟨nd, rfl⟩⟩))
                                        go_meet
                                        case rel => exact ⟨_, (((t596.length : Int) != 0)), (by first | rfl | (simp; done) | (simp [*]; done)), H', ⟨by have := HJ14.out; first | omega | exact Nat.le_refl _⟩, ⟨by (with_reducible repeat (first | apply Kd.R_alloc | apply Kd.R_drewN | apply Kd.R_drew)); exact Kd.R_mono HO_11.out (fun _ hk => hk.2.2)⟩, ⟨by (with_reducible repeat (first | apply Kd.R_alloc | apply Kd.R_drewN | apply Kd.R_drew)); exact Kd.R_mono HO_13.out (fun _ hk => hk.2.2)⟩, ⟨by (with_reducible repeat (first | refine blk_drewN ?_ _ | refine blk_drew ?_ | refine blk_alloc ?_ _)); exact BK588.out⟩, ⟨by repeat (first | (with_reducible first | exact HB.out | apply below_alloc | apply pw_below_drewN | apply below_drew1 | refine below_set ?_ GE588.out) | exact HB.out)⟩⟩
                                    · rw [if_neg c52] at H
                                      have c52b0 : ((t600.length : Int) == 0) = false := beq_eq_false_iff_ne.mpr c52
                                      have c52b1 : ((t600.length : Int) != 0) = true := bne_iff_ne.mpr c52
                                      have c52b2 : ¬ (t600 = []) := fun h_ => c52 (by rw [h_]; rfl)
                                      by_cases c55 : (t604.length : Int) = 0
                                      · rw [if_pos c55] at H
                                        have c55b0 : ((t604.length : Int) == 0) = true := beq_iff_eq.mpr c55
                                        have c55b1 : ((t604.length : Int) != 0) = false := bne_eq_false_iff_eq.mpr c55
                                        clear c55
                                        as_aux_lemma =>
                                          have H' := Aside0.mk H
                                          clear H
                                          go_wp2_with (first | (go_at_call 26; (with_reducible refine (field_Plus.calls t608 t610 t616 _ A42.out).mono ?_); rintro e w' ⟨rfl, ⟨nd, rfl⟩⟩) | (go_at_call 28; (with_reducible refine (field_Times.calls kj14 t608 t610 t617 _ A44.out).mono ?_); rintro e w' ⟨rfl, ⟨nd, rfl⟩⟩; obtain ⟨Ao56, co56, eo56⟩ := Kd.R_slice HO_11.out; subst eo56; obtain ⟨Ao57, co57, eo57⟩ := Kd.R_slice HO_13.out; subst eo57) | (go_at_call 52; (with_reducible refine (foghornlaw18_degree.calls _ _ t596 t618 _ ?side1 ?side2 A48.out).mono ?_); (case side1 => repeat (first | exact (Kd.R_reads' HO_9.out).2.2 | (with_reducible refine Kd.C_alloc ?_ _) | (with_reducible refine Kd.C_drewN ?_ _) | (with_reducible refine Kd.C_drew ?_))); (case side2 => exact (Kd.R_reads' HO_9.out).2.1); rintro e w' ⟨rfl, ⟨nd, rfl⟩⟩) | (go_at_call 52; (with_reducible refine (foghornlaw18_degree.calls _ _ t600 t619 _ ?side1 ?side2 A49.out).mono ?_); (case side1 => repeat (first | exact (Kd.R_reads' HO_11.out).2.2 | (with_reducible refine Kd.C_alloc ?_ _) | (with_reducible refine Kd.C_drewN ?_ _) | (with_reducible refine Kd.C_drew ?_))); (case side2 => exact (Kd.R_reads' HO_11.out).2.1); rintro e w' ⟨rfl, ⟨nd, rfl⟩⟩) | (go_at_call 52; (with_reducible refine (foghornlaw18_degree.calls _ _ t604 t620 _ ?side1 ?side2 A50.out).mono ?_); (case side1 => repeat (first | exact (Kd.R_reads' HO_13.out).2.2 | (with_reducible refine Kd.C_alloc ?_ _) | (with_reducible refine Kd.C_drewN ?_ _) | (with_reducible refine Kd.C_drew ?_))); (case side2 => exact (Kd.R_reads' HO_13.out).2.1); rintro e w' ⟨rfl, ⟨nd, rfl⟩⟩))
                                          go_meet
                                          case rel => exact ⟨_, (((t596.length : Int) != 0)), (by first | rfl | (simp; done) | (simp [*]; done)), H', ⟨by have := HJ14.out; first | omega | exact Nat.le_refl _⟩, ⟨by (with_reducible repeat (first | apply Kd.R_alloc | apply Kd.R_drewN | apply Kd.R_drew)); exact Kd.R_mono HO_11.out (fun _ hk => hk.2.2)⟩, ⟨by (with_reducible repeat (first | apply Kd.R_alloc | apply Kd.R_drewN | apply Kd.R_drew)); exact Kd.R_mono HO_13.out (fun _ hk => hk.2.2)⟩, ⟨by (with_reducible repeat (first | refine blk_drewN ?_ _ | refine blk_drew ?_ | refine blk_alloc ?_ _)); exact BK588.out⟩, ⟨by repeat (first | (with_reducible first | exact HB.out | apply below_alloc | apply pw_below_drewN | apply below_drew1 | refine below_set ?_ GE588.out) | exact HB.out)⟩⟩
                                      · rw [if_neg c55] at H
                                        have c55b0 : ((t604.length : Int) == 0) = false := beq_eq_false_iff_ne.mpr c55
                                        have c55b1 : ((t604.length : Int) != 0) = true := bne_iff_ne.mpr c55
                                        have c55b2 : ¬ (t604 = []) := fun h_ => c55 (by rw [h_]; rfl)
                                        as_aux_lemma =>
                                          have H' := Aside0.mk H
                                          clear H
                                          go_wp2_with (first | (go_at_call 26; (with_reducible refine (field_Plus.calls t608 t610 t616 _ A42.out).mono ?_); rintro e w' ⟨rfl, ⟨nd, rfl⟩⟩) | (go_at_call 28; (with_reducible refine (field_Times.calls kj14 t608 t610 t617 _ A44.out).mono ?_); rintro e w' ⟨rfl, ⟨nd, rfl⟩⟩; obtain ⟨Ao58, co58, eo58⟩ := Kd.R_slice HO_11.out; subst eo58; obtain ⟨Ao59, co59, eo59⟩ := Kd.R_slice HO_13.out; subst eo59) | (go_at_call 52; (with_reducible refine (foghornlaw18_degree.calls _ _ t596 t618 _ ?side1 ?side2 A48.out).mono ?_); (case side1 => repeat (first | exact (Kd.R_reads' HO_9.out).2.2 | (with_reducible refine Kd.C_alloc ?_ _) | (with_reducible refine Kd.C_drewN ?_ _) | (with_reducible refine Kd.C_drew ?_))); (case side2 => exact (Kd.R_reads' HO_9.out).2.1); rintro e w' ⟨rfl, ⟨nd, rfl⟩⟩) | (go_at_call 52; (with_reducible refine (foghornlaw18_degree.calls _ _ t600 t619 _ ?side1 ?side2 A49.out).mono ?_); (case side1 => repeat (first | exact (Kd.R_reads' HO_11.out).2.2 | (with_reducible refine Kd.C_alloc ?_ _) | (with_reducible refine Kd.C_drewN ?_ _) | (with_reducible refine Kd.C_drew ?_))); (case side2 => exact (Kd.R_reads' HO_11.out).2.1); rintro e w' ⟨rfl, ⟨nd, rfl⟩⟩) | (go_at_call 52; (with_reducible refine (foghornlaw18_degree.calls _ _ t604 t620 _ ?side1 ?side2 A50.out).mono ?_); (case side1 => repeat (first | exact (Kd.R_reads' HO_13.out).2.2 | (with_reducible refine Kd.C_alloc ?_ _) | (with_reducible refine Kd.C_drewN ?_ _) | (with_reducible refine Kd.C_drew ?_))); (case side2 => exact (Kd.R_reads' HO_13.out).2.1); rintro e w' ⟨rfl, ⟨nd, rfl⟩⟩))
                                          go_meet
                                          case rel => exact ⟨_, (false), (by first | rfl | (simp; done) | (simp [*]; done)), H', ⟨by have := HJ14.out; first | omega | exact Nat.le_refl _⟩, ⟨by (with_reducible repeat (first | apply Kd.R_alloc | apply Kd.R_drewN | apply Kd.R_drew)); exact Kd.R_mono HO_11.out (fun _ hk => hk.2.2)⟩, ⟨by (with_reducible repeat (first | apply Kd.R_alloc | apply Kd.R_drewN | apply Kd.R_drew)); exact Kd.R_mono HO_13.out (fun _ hk => hk.2.2)⟩, ⟨by (with_reducible repeat (first | refine blk_drewN ?_ _ | refine blk_drew ?_ | refine blk_alloc ?_ _)); exact BK588.out⟩, ⟨by repeat (first | (with_reducible first | exact HB.out | apply below_alloc | apply pw_below_drewN | apply below_drew1 | refine below_set ?_ GE588.out) | exact HB.out)⟩⟩
                                  · rw [if_neg c51] at H
                                    have c51b0 : (t618 == (wrap64 (t619 + t620))) = false := beq_eq_false_iff_ne.mpr c51
                                    have c51b1 : (t618 != (wrap64 (t619 + t620))) = true := bne_iff_ne.mpr c51
                                    as_aux_lemma =>
                                      have H' := Aside0.mk H
                                      clear H
                                      go_wp2_with (first | (go_at_call 26; (with_reducible refine (field_Plus.calls t608 t610 t616 _ A42.out).mono ?_); rintro e w' ⟨rfl, ⟨nd, rfl⟩⟩) | (go_at_call 28; (with_reducible refine (field_Times.calls kj14 t608 t610 t617 _ A44.out).mono ?_); rintro e w' ⟨rfl, ⟨nd, rfl⟩⟩; obtain ⟨Ao60, co60, eo60⟩ := Kd.R_slice HO_11.out; subst eo60; obtain ⟨Ao61, co61, eo61⟩ := Kd.R_slice HO_13.out; subst eo61) | (go_at_call 52; (with_reducible refine (foghornlaw18_degree.calls _ _ t596 t618 _ ?side1 ?side2 A48.out).mono ?_); (case side1 => repeat (first | exact (Kd.R_reads' HO_9.out).2.2 | (with_reducible refine Kd.C_alloc ?_ _) | (with_reducible refine Kd.C_drewN ?_ _) | (with_reducible refine Kd.C_drew ?_))); (case side2 => exact (Kd.R_reads' HO_9.out).2.1); rintro e w' ⟨rfl, ⟨nd, rfl⟩⟩) | (go_at_call 52; (with_reducible refine (foghornlaw18_degree.calls _ _ t600 t619 _ ?side1 ?side2 A49.out).mono ?_); (case side1 => repeat (first | exact (Kd.R_reads' HO_11.out).2.2 | (with_reducible refine Kd.C_alloc ?_ _) | (with_reducible refine Kd.C_drewN ?_ _) | (with_reducible refine Kd.C_drew ?_))); (case side2 => exact (Kd.R_reads' HO_11.out).2.1); rintro e w' ⟨rfl, ⟨nd, rfl⟩⟩) | (go_at_call 52; (with_reducible refine (foghornlaw18_degree.calls _ _ t604 t620 _ ?side1 ?side2 A50.out).mono ?_); (case side1 => repeat (first | exact (Kd.R_reads' HO_13.out).2.2 | (with_reducible refine Kd.C_alloc ?_ _) | (with_reducible refine Kd.C_drewN ?_ _) | (with_reducible refine Kd.C_drew ?_))); (case side2 => exact (Kd.R_reads' HO_13.out).2.1); rintro e w' ⟨rfl, ⟨nd, rfl⟩⟩))
                                      go_meet
                                      case rel => exact ⟨_, (true), (by first | rfl | (simp; done) | (simp [*]; done)), H', ⟨by have := HJ14.out; first | omega | exact Nat.le_refl _⟩, ⟨by (with_reducible repeat (first | apply Kd.R_alloc | apply Kd.R_drewN | apply Kd.R_drew)); exact Kd.R_mono HO_11.out (fun _ hk => hk.2.2)⟩, ⟨by (with_reducible repeat (first | apply Kd.R_alloc | apply Kd.R_drewN | apply Kd.R_drew)); exact Kd.R_mono HO_13.out (fun _ hk => hk.2.2)⟩, ⟨by (with_reducible repeat (first | refine blk_drewN ?_ _ | refine blk_drew ?_ | refine blk_alloc ?_ _)); exact BK588.out⟩, ⟨by repeat (first | (with_reducible first | exact HB.out | apply below_alloc | apply pw_below_drewN | apply below_drew1 | refine below_set ?_ GE588.out) | exact HB.out)⟩⟩
                                · rw [if_neg c47] at H
                                  have c47b0 : decide (0 < (t604.length : Int)) = false := decide_eq_false c47
                                  have c47b1 : decide (0 < t604.length) = false := decide_eq_false (by omega)
                                  clear c47
                                  by_cases c62 : (t600.length : Int) = 0
                                  · rw [if_pos c62] at H
                                    have c62b0 : ((t600.length : Int) == 0) = true := beq_iff_eq.mpr c62
                                    have c62b1 : ((t600.length : Int) != 0) = false := bne_eq_false_iff_eq.mpr c62
                                    clear c62
                                    as_aux_lemma =>
                                      have H' := Aside0.mk H
                                      clear H
                                      go_wp2_with (first | (go_at_call 26; (with_reducible refine (field_Plus.calls t608 t610 t616 _ A42.out).mono ?_); rintro e w' ⟨rfl, ⟨nd, rfl⟩⟩) | (go_at_call 28; (with_reducible refine (field_Times.calls kj14 t608 t610 t617 _ A44.out).mono ?_); rintro e w' ⟨rfl, ⟨nd, rfl⟩⟩; obtain ⟨Ao63, co63, eo63⟩ := Kd.R_slice HO_11.out; subst eo63; obtain ⟨Ao64, co64, eo64⟩ := Kd.R_slice HO_13.out; subst eo64))
                                      go_meet
                                      case rel => exact ⟨_, (((t596.length : Int) != 0)), (by first | rfl | (simp; done) | (simp [*]; done)), H', ⟨by have := HJ14.out; first | omega | exact Nat.le_refl _⟩, ⟨by (with_reducible repeat (first | apply Kd.R_alloc | apply Kd.R_drewN | apply Kd.R_drew)); exact Kd.R_mono HO_11.out (fun _ hk => hk.2.2)⟩, ⟨by (with_reducible repeat (first | apply Kd.R_alloc | apply Kd.R_drewN | apply Kd.R_drew)); exact Kd.R_mono HO_13.out (fun _ hk => hk.2.2)⟩, ⟨by (with_reducible repeat (first | refine blk_drewN ?_ _ | refine blk_drew ?_ | refine blk_alloc ?_ _)); exact BK588.out⟩, ⟨by repeat (first | (with_reducible first | exact HB.out | apply below_alloc | apply pw_below_drewN | apply below_drew1 | refine below_set ?_ GE588.out) | exact HB.out)⟩⟩
                                  · rw [if_neg c62] at H
                                    have c62b0 : ((t600.length : Int) == 0) = false := beq_eq_false_iff_ne.mpr c62
                                    have c62b1 : ((t600.length : Int) != 0) = true := bne_iff_ne.mpr c62
                                    have c62b2 : ¬ (t600 = []) := fun h_ => c62 (by rw [h_]; rfl)
                                    by_cases c65 : (t604.length : Int) = 0
                                    · rw [if_pos c65] at H
                                      have c65b0 : ((t604.length : Int) == 0) = true := beq_iff_eq.mpr c65
                                      have c65b1 : ((t604.length : Int) != 0) = false := bne_eq_false_iff_eq.mpr c65
                                      clear c65
                                      as_aux_lemma =>
                                        have H' := Aside0.mk H
                                        clear H
                                        go_wp2_with (first | (go_at_call 26; (with_reducible refine (field_Plus.calls t608 t610 t616 _ A42.out).mono ?_); rintro e w' ⟨rfl, ⟨nd, rfl⟩⟩) | (go_at_call 28; (with_reducible refine (field_Times.calls kj14 t608 t610 t617 _ A44.out).mono ?_); rintro e w' ⟨rfl, ⟨nd, rfl⟩⟩; obtain ⟨Ao66, co66, eo66⟩ := Kd.R_slice HO_11.out; subst eo66; obtain ⟨Ao67, co67, eo67⟩ := Kd.R_slice HO_13.out; subst eo67))
                                        go_meet
                                        case rel => exact ⟨_, (((t596.length : Int) != 0)), (by first | rfl | (simp; done) | (simp [*]; done)), H', ⟨by have := HJ14.out; first | omega | exact Nat.le_refl _⟩, ⟨by (with_reducible repeat (first | apply Kd.R_alloc | apply Kd.R_drewN | apply Kd.R_drew)); exact Kd.R_mono HO_11.out (fun _ hk => hk.2.2)⟩, ⟨by (with_reducible repeat (first | apply Kd.R_alloc | apply Kd.R_drewN | apply Kd.R_drew)); exact Kd.R_mono HO_13.out (fun _ hk => hk.2.2)⟩, ⟨by (with_reducible repeat (first | refine blk_drewN ?_ _ | refine blk_drew ?_ | refine blk_alloc ?_ _)); exact BK588.out⟩, ⟨by repeat (first | (with_reducible first | exact HB.out | apply below_alloc | apply pw_below_drewN | apply below_drew1 | refine below_set ?_ GE588.out) | exact HB.out)⟩⟩
                                    · rw [if_neg c65] at H
                                      have c65b0 : ((t604.length : Int) == 0) = false := beq_eq_false_iff_ne.mpr c65
                                      have c65b1 : ((t604.length : Int) != 0) = true := bne_iff_ne.mpr c65
                                      have c65b2 : ¬ (t604 = []) := fun h_ => c65 (by rw [h_]; rfl)
                                      as_aux_lemma =>
                                        have H' := Aside0.mk H
                                        clear H
                                        go_wp2_with (first | (go_at_call 26; (with_reducible refine (field_Plus.calls t608 t610 t616 _ A42.out).mono ?_); rintro e w' ⟨rfl, ⟨nd, rfl⟩⟩) | (go_at_call 28; (with_reducible refine (field_Times.calls kj14 t608 t610 t617 _ A44.out).mono ?_); rintro e w' ⟨rfl, ⟨nd, rfl⟩⟩; obtain ⟨Ao68, co68, eo68⟩ := Kd.R_slice HO_11.out; subst eo68; obtain ⟨Ao69, co69, eo69⟩ := Kd.R_slice HO_13.out; subst eo69))
                                        go_meet
                                        case rel => exact ⟨_, (false), (by first | rfl | (simp; done) | (simp [*]; done)), H', ⟨by have := HJ14.out; first | omega | exact Nat.le_refl _⟩, ⟨by (with_reducible repeat (first | apply Kd.R_alloc | apply Kd.R_drewN | apply Kd.R_drew)); exact Kd.R_mono HO_11.out (fun _ hk => hk.2.2)⟩, ⟨by (with_reducible repeat (first | apply Kd.R_alloc | apply Kd.R_drewN | apply Kd.R_drew)); exact Kd.R_mono HO_13.out (fun _ hk => hk.2.2)⟩, ⟨by (with_reducible repeat (first | refine blk_drewN ?_ _ | refine blk_drew ?_ | refine blk_alloc ?_ _)); exact BK588.out⟩, ⟨by repeat (first | (with_reducible first | exact HB.out | apply below_alloc | apply pw_below_drewN | apply below_drew1 | refine below_set ?_ GE588.out) | exact HB.out)⟩⟩
                              · rw [if_neg c46] at H
                                have c46b0 : decide (0 < (t600.length : Int)) = false := decide_eq_false c46
                                have c46b1 : decide (0 < t600.length) = false := decide_eq_false (by omega)
                                clear c46
                                by_cases c70 : (t600.length : Int) = 0
                                · rw [if_pos c70] at H
                                  have c70b0 : ((t600.length : Int) == 0) = true := beq_iff_eq.mpr c70
                                  have c70b1 : ((t600.length : Int) != 0) = false := bne_eq_false_iff_eq.mpr c70
                                  clear c70
                                  as_aux_lemma =>
                                    have H' := Aside0.mk H
                                    clear H
                                    go_wp2_with (first | (go_at_call 26; (with_reducible refine (field_Plus.calls t608 t610 t616 _ A42.out).mono ?_); rintro e w' ⟨rfl, ⟨nd, rfl⟩⟩) | (go_at_call 28; (with_reducible refine (field_Times.calls kj14 t608 t610 t617 _ A44.out).mono ?_); rintro e w' ⟨rfl, ⟨nd, rfl⟩⟩; obtain ⟨Ao71, co71, eo71⟩ := Kd.R_slice HO_11.out; subst eo71))
                                    go_meet
                                    case rel => exact ⟨_, (((t596.length : Int) != 0)), (by first | rfl | (simp; done) | (simp [*]; done)), H', ⟨by have := HJ14.out; first | omega | exact Nat.le_refl _⟩, ⟨by (with_reducible repeat (first | apply Kd.R_alloc | apply Kd.R_drewN | apply Kd.R_drew)); exact Kd.R_mono HO_11.out (fun _ hk => hk.2.2)⟩, ⟨by (with_reducible repeat (first | apply Kd.R_alloc | apply Kd.R_drewN | apply Kd.R_drew)); exact Kd.R_mono HO_13.out (fun _ hk => hk.2.2)⟩, ⟨by (with_reducible repeat (first | refine blk_drewN ?_ _ | refine blk_drew ?_ | refine blk_alloc ?_ _)); exact BK588.out⟩, ⟨by repeat (first | (with_reducible first | exact HB.out | apply below_alloc | apply pw_below_drewN | apply below_drew1 | refine below_set ?_ GE588.out) | exact HB.out)⟩⟩
                                · rw [if_neg c70] at H
                                  have c70b0 : ((t600.length : Int) == 0) = false := beq_eq_false_iff_ne.mpr c70
                                  have c70b1 : ((t600.length : Int) != 0) = true := bne_iff_ne.mpr c70
                                  have c70b2 : ¬ (t600 = []) := fun h_ => c70 (by rw [h_]; rfl)
                                  by_cases c72 : (t604.length : Int) = 0
                                  · rw [if_pos c72] at H
                                    have c72b0 : ((t604.length : Int) == 0) = true := beq_iff_eq.mpr c72
                                    have c72b1 : ((t604.length : Int) != 0) = false := bne_eq_false_iff_eq.mpr c72
                                    clear c72
                                    as_aux_lemma =>
                                      have H' := Aside0.mk H
                                      clear H
                                      go_wp2_with (first | (go_at_call 26; (with_reducible refine (field_Plus.calls t608 t610 t616 _ A42.out).mono ?_); rintro e w' ⟨rfl, ⟨nd, rfl⟩⟩) | (go_at_call 28; (with_reducible refine (field_Times.calls kj14 t608 t610 t617 _ A44.out).mono ?_); rintro e w' ⟨rfl, ⟨nd, rfl⟩⟩; obtain ⟨Ao73, co73, eo73⟩ := Kd.R_slice HO_11.out; subst eo73; obtain ⟨Ao74, co74, eo74⟩ := Kd.R_slice HO_13.out; subst eo74))
                                      go_meet
                                      case rel => exact ⟨_, (((t596.length : Int) != 0)), (by first | rfl | (simp; done) | (simp [*]; done)), H', ⟨by have := HJ14.out; first | omega | exact Nat.le_refl _⟩, ⟨by (with_reducible repeat (first | apply Kd.R_alloc | apply Kd.R_drewN | apply Kd.R_drew)); exact Kd.R_mono HO_11.out (fun _ hk => hk.2.2)⟩, ⟨by (with_reducible repeat (first | apply Kd.R_alloc | apply Kd.R_drewN | apply Kd.R_drew)); exact Kd.R_mono HO_13.out (fun _ hk => hk.2.2)⟩, ⟨by (with_reducible repeat (first | refine blk_drewN ?_ _ | refine blk_drew ?_ | refine blk_alloc ?_ _)); exact BK588.out⟩, ⟨by repeat (first | (with_reducible first | exact HB.out | apply below_alloc | apply pw_below_drewN | apply below_drew1 | refine below_set ?_ GE588.out) | exact HB.out)⟩⟩
                                  · rw [if_neg c72] at H
                                    have c72b0 : ((t604.length : Int) == 0) = false := beq_eq_false_iff_ne.mpr c72
                                    have c72b1 : ((t604.length : Int) != 0) = true := bne_iff_ne.mpr c72
                                    have c72b2 : ¬ (t604 = []) := fun h_ => c72 (by rw [h_]; rfl)
                                    as_aux_lemma =>
                                      have H' := Aside0.mk H
                                      clear H
                                      go_wp2_with (first | (go_at_call 26; (with_reducible refine (field_Plus.calls t608 t610 t616 _ A42.out).mono ?_); rintro e w' ⟨rfl, ⟨nd, rfl⟩⟩) | (go_at_call 28; (with_reducible refine (field_Times.calls kj14 t608 t610 t617 _ A44.out).mono ?_); rintro e w' ⟨rfl, ⟨nd, rfl⟩⟩; obtain ⟨Ao75, co75, eo75⟩ := Kd.R_slice HO_11.out; subst eo75; obtain ⟨Ao76, co76, eo76⟩ := Kd.R_slice HO_13.out; subst eo76))
                                      go_meet
                                      case rel => exact ⟨_, (false), (by first | rfl | (simp; done) | (simp [*]; done)), H', ⟨by have := HJ14.out; first | omega | exact Nat.le_refl _⟩, ⟨by (with_reducible repeat (first | apply Kd.R_alloc | apply Kd.R_drewN | apply Kd.R_drew)); exact Kd.R_mono HO_11.out (fun _ hk => hk.2.2)⟩, ⟨by (with_reducible repeat (first | apply Kd.R_alloc | apply Kd.R_drewN | apply Kd.R_drew)); exact Kd.R_mono HO_13.out (fun _ hk => hk.2.2)⟩, ⟨by (with_reducible repeat (first | refine blk_drewN ?_ _ | refine blk_drew ?_ | refine blk_alloc ?_ _)); exact BK588.out⟩, ⟨by repeat (first | (with_reducible first | exact HB.out | apply below_alloc | apply pw_below_drewN | apply below_drew1 | refine below_set ?_ GE588.out) | exact HB.out)⟩⟩
                            · rw [if_neg c45] at H
                              have c45b0 : (t614 == t617) = false := beq_eq_false_iff_ne.mpr c45
                              have c45b1 : (t614 != t617) = true := bne_iff_ne.mpr c45
                              as_aux_lemma =>
                                have H' := Aside0.mk H
                                clear H
                                go_wp2_with (first | (go_at_call 26; (with_reducible refine (field_Plus.calls t608 t610 t616 _ A42.out).mono ?_); rintro e w' ⟨rfl, ⟨nd, rfl⟩⟩) | (go_at_call 28; (with_reducible refine (field_Times.calls kj14 t608 t610 t617 _ A44.out).mono ?_); rintro e w' ⟨rfl, ⟨nd, rfl⟩⟩))
                                go_meet
                                case rel => exact ⟨_, (true), (by first | rfl | (simp; done) | (simp [*]; done)), H', ⟨by have := HJ14.out; first | omega | exact Nat.le_refl _⟩, ⟨by (with_reducible repeat (first | apply Kd.R_alloc | apply Kd.R_drewN | apply Kd.R_drew)); exact Kd.R_mono HO_11.out (fun _ hk => hk.2.2)⟩, ⟨by (with_reducible repeat (first | apply Kd.R_alloc | apply Kd.R_drewN | apply Kd.R_drew)); exact Kd.R_mono HO_13.out (fun _ hk => hk.2.2)⟩, ⟨by (with_reducible repeat (first | refine blk_drewN ?_ _ | refine blk_drew ?_ | refine blk_alloc ?_ _)); exact BK588.out⟩, ⟨by repeat (first | (with_reducible first | exact HB.out | apply below_alloc | apply pw_below_drewN | apply below_drew1 | refine below_set ?_ GE588.out) | exact HB.out)⟩⟩
                          · rw [if_neg c43] at H
                            have c43b0 : (t612 == t616) = false := beq_eq_false_iff_ne.mpr c43
                            have c43b1 : (t612 != t616) = true := bne_iff_ne.mpr c43
                            as_aux_lemma =>
                              have H' := Aside0.mk H
                              clear H
                              go_wp2_with (first | (go_at_call 26; (with_reducible refine (field_Plus.calls t608 t610 t616 _ A42.out).mono ?_); rintro e w' ⟨rfl, ⟨nd, rfl⟩⟩))
                              go_meet
                              case rel => exact ⟨_, (true), (by first | rfl | (simp; done) | (simp [*]; done)), H', ⟨by have := HJ14.out; first | omega | exact Nat.le_refl _⟩, ⟨by (with_reducible repeat (first | apply Kd.R_alloc | apply Kd.R_drewN | apply Kd.R_drew)); exact Kd.R_mono HO_11.out (fun _ hk => hk.2.2)⟩, ⟨by (with_reducible repeat (first | apply Kd.R_alloc | apply Kd.R_drewN | apply Kd.R_drew)); exact Kd.R_mono HO_13.out (fun _ hk => hk.2.2)⟩, ⟨by (with_reducible repeat (first | refine blk_drewN ?_ _ | refine blk_drew ?_ | refine blk_alloc ?_ _)); exact BK588.out⟩, ⟨by repeat (first | (with_reducible first | exact HB.out | apply below_alloc | apply pw_below_drewN | apply below_drew1 | refine below_set ?_ GE588.out) | exact HB.out)⟩⟩
                        · rw [if_neg c41] at H
                          have c41b0 : (t615 == 0) = false := beq_eq_false_iff_ne.mpr c41
                          have c41b1 : (t615 != 0) = true := bne_iff_ne.mpr c41
                          as_aux_lemma =>
                            have H' := Aside0.mk H
                            clear H
                            go_wp2
                            go_meet
                            case rel => exact ⟨_, (true), (by first | rfl | (simp; done) | (simp [*]; done)), H', ⟨by have := HJ14.out; first | omega | exact Nat.le_refl _⟩, ⟨by (with_reducible repeat (first | apply Kd.R_alloc | apply Kd.R_drewN | apply Kd.R_drew)); exact Kd.R_mono HO_11.out (fun _ hk => hk.2.2)⟩, ⟨by (with_reducible repeat (first | apply Kd.R_alloc | apply Kd.R_drewN | apply Kd.R_drew)); exact Kd.R_mono HO_13.out (fun _ hk => hk.2.2)⟩, ⟨by (with_reducible repeat (first | refine blk_drewN ?_ _ | refine blk_drew ?_ | refine blk_alloc ?_ _)); exact BK588.out⟩, ⟨by repeat (first | (with_reducible first | exact HB.out | apply below_alloc | apply pw_below_drewN | apply below_drew1 | refine below_set ?_ GE588.out) | exact HB.out)⟩⟩
                      · rw [if_neg c40] at H
                        have c40b0 : (t613 == 0) = false := beq_eq_false_iff_ne.mpr c40
                        have c40b1 : (t613 != 0) = true := bne_iff_ne.mpr c40
                        (first | rw [c40b0] | (simp only [i64_w, i32_w]; rw [c40b0]) | skip)
                        as_aux_lemma =>
                          have H' := Aside0.mk H
                          clear H
                          go_wp2
                          go_meet
                          case rel => exact ⟨_, (true), (by first | rfl | (simp; done) | (simp [*]; done)), H', ⟨by have := HJ14.out; first | omega | exact Nat.le_refl _⟩, ⟨by (with_reducible repeat (first | apply Kd.R_alloc | apply Kd.R_drewN | apply Kd.R_drew)); exact Kd.R_mono HO_11.out (fun _ hk => hk.2.2)⟩, ⟨by (with_reducible repeat (first | apply Kd.R_alloc | apply Kd.R_drewN | apply Kd.R_drew)); exact Kd.R_mono HO_13.out (fun _ hk => hk.2.2)⟩, ⟨by (with_reducible repeat (first | refine blk_drewN ?_ _ | refine blk_drew ?_ | refine blk_alloc ?_ _)); exact BK588.out⟩, ⟨by repeat (first | (with_reducible first | exact HB.out | apply below_alloc | apply pw_below_drewN | apply below_drew1 | refine below_set ?_ GE588.out) | exact HB.out)⟩⟩
                    case rest =>
                      clear HC33
                      try clear c1
                      try clear c2
                      try clear p2
                      try clear c3
                      try clear c3b0
                      try clear c3b1
                      try clear c4
                      try clear c4b0
                      try clear c4b1
                      try clear c5
                      try clear c6
                      try clear c6b0
                      try clear c6b1
                      try clear p6
                      try clear c7
                      try clear c7b0
                      try clear c7b1
                      try clear c9
                      try clear c9b0
                      try clear c9b1
                      try clear c10
                      try clear c10b0
                      try clear c10b1
                      try clear c11
                      try clear c25
                      try clear c25b0
                      try clear c25b1
                      try clear c26
                      try clear c26b0
                      try clear c26b1
                      try clear c27
                      try clear c27b0
                      try clear c27b1
                      try clear c28
                      try clear c40
                      try clear c40b0
                      try clear c40b1
                      try clear c41
                      try clear c41b0
                      try clear c41b1
                      try clear c43
                      try clear c43b0
                      try clear c43b1
                      try clear c45
                      try clear c45b0
                      try clear c45b1
                      try clear c46
                      try clear c46b0
                      try clear c46b1
                      try clear c47
                      try clear c47b0
                      try clear c47b1
                      try clear c49
                      try clear c50
                      try clear c51
                      try clear c51b0
                      try clear c51b1
                      try clear c52
                      try clear c52b0
                      try clear c52b1
                      try clear c52b2
                      try clear c55
                      try clear c55b0
                      try clear c55b1
                      try clear c55b2
                      try clear c62
                      try clear c62b0
                      try clear c62b1
                      try clear c62b2
                      try clear p64
                      try clear c65
                      try clear c65b0
                      try clear c65b1
                      try clear c65b2
                      try clear c70
                      try clear c70b0
                      try clear c70b1
                      try clear c70b2
                      try clear c72
                      try clear c72b0
                      try clear c72b1
                      try clear c72b2
                      try clear hcz17_0
                      try clear hcz17_1
                      try clear hcz17_2
                      try clear hcz17_3
                      try clear hfz17_0
                      try clear hfz17_1
                      try clear hfz17_2
                      try clear hfz17_3
                      try clear p2
                      obtain ⟨kq, x173_32, rfl, HA, HJ32, HO_11, HO_13, BK588, HB⟩ := hcut
                      cases kq with
                      | zero => exact absurd HA.out (by simp [foghornlaw18_FieldRings.j1])
                      | succ kj32 =>
                        have H := HA.out
                        clear HA
                        simp only [foghornlaw18_FieldRings.j1] at H
                        by_cases c77 : x173_32 = true
                        · subst c77
                          have H1 : (some false) = some r := by rw [if_pos rfl] at H; exact H
                          clear H
                          have H := H1
                          clear H1
                          as_aux_lemma =>
                            exact absurd ((Option.some.inj H).trans HQ_.out) (by decide)
                        · replace c77 := Bool.eq_false_iff.mpr c77
                          subst c77
                          have H1 : ((field_Divide.f kj32 (l0_0.take ((ji2) : Int).toNat) (l0_1.take ((ji5) : Int).toNat)).bind fun bt621 => (if (t604.length : Int) = 0 then (if bt621.2.2 = 6 then ((foghornlaw18_awake.f kj32).bind fun t628 => (some t628)) else (some false)) else ((field_Product.f kj32 bt621.1 (l0_1.take ((ji5) : Int).toNat)).bind fun bt629 => ((field_Sum.f kj32 bt629.1 bt621.2.1).bind fun bt633 => (if bt621.2.2 = 0 then (if bt629.2 = 0 then (if bt633.2 = 0 then (if (bt621.2.1.length : Int) ≥ (t604.length : Int) then (foghornlaw18_FieldRings.j2 kj32 (l0_0.take ((ji2) : Int).toNat) (l0_1.take ((ji5) : Int).toNat) (l0_2.take ((ji8) : Int).toNat) true) else ((foghornlaw18_same.f kj32 bt633.1 t600).bind fun t637 => (foghornlaw18_FieldRings.j2 kj32 (l0_0.take ((ji2) : Int).toNat) (l0_1.take ((ji5) : Int).toNat) (l0_2.take ((ji8) : Int).toNat) (!t637)))) else (foghornlaw18_FieldRings.j2 kj32 (l0_0.take ((ji2) : Int).toNat) (l0_1.take ((ji5) : Int).toNat) (l0_2.take ((ji8) : Int).toNat) true)) else (foghornlaw18_FieldRings.j2 kj32 (l0_0.take ((ji2) : Int).toNat) (l0_1.take ((ji5) : Int).toNat) (l0_2.take ((ji8) : Int).toNat) true)) else (foghornlaw18_FieldRings.j2 kj32 (l0_0.take ((ji2) : Int).toNat) (l0_1.take ((ji5) : Int).toNat) (l0_2.take ((ji8) : Int).toNat) true)))))) = some r := by rw [if_neg (show ¬ (false = true) by decide)] at H; exact H
                          clear H
                          have H := H1
                          clear H1
                          replace H := Option.bind_eq_some_iff.mp H
                          obtain ⟨⟨t621, t624, t627⟩, A780, H⟩ := H
                          replace H : (if (t604.length : Int) = 0 then (if t627 = 6 then ((foghornlaw18_awake.f kj32).bind fun t628 => (some t628)) else (some false)) else ((field_Product.f kj32 t621 (l0_1.take ((ji5) : Int).toNat)).bind fun bt629 => ((field_Sum.f kj32 bt629.1 t624).bind fun bt633 => (if t627 = 0 then (if bt629.2 = 0 then (if bt633.2 = 0 then (if (t624.length : Int) ≥ (t604.length : Int) then (foghornlaw18_FieldRings.j2 kj32 (l0_0.take ((ji2) : Int).toNat) (l0_1.take ((ji5) : Int).toNat) (l0_2.take ((ji8) : Int).toNat) true) else ((foghornlaw18_same.f kj32 bt633.1 t600).bind fun t637 => (foghornlaw18_FieldRings.j2 kj32 (l0_0.take ((ji2) : Int).toNat) (l0_1.take ((ji5) : Int).toNat) (l0_2.take ((ji8) : Int).toNat) (!t637)))) else (foghornlaw18_FieldRings.j2 kj32 (l0_0.take ((ji2) : Int).toNat) (l0_1.take ((ji5) : Int).toNat) (l0_2.take ((ji8) : Int).toNat) true)) else (foghornlaw18_FieldRings.j2 kj32 (l0_0.take ((ji2) : Int).toNat) (l0_1.take ((ji5) : Int).toNat) (l0_2.take ((ji8) : Int).toNat) true)) else (foghornlaw18_FieldRings.j2 kj32 (l0_0.take ((ji2) : Int).toNat) (l0_1.take ((ji5) : Int).toNat) (l0_2.take ((ji8) : Int).toNat) true))))) = some r := H
                          have A78 := Aside0.mk A780
                          clear A780
                          by_cases c79 : (t604.length : Int) = 0
                          · rw [if_pos c79] at H
                            have c79b0 : ((t604.length : Int) == 0) = true := beq_iff_eq.mpr c79
                            have c79b1 : ((t604.length : Int) != 0) = false := bne_eq_false_iff_eq.mpr c79
                            clear c79
                            by_cases c80 : t627 = 6
                            · rw [if_pos c80] at H
                              have c80b0 : (t627 == 6) = true := beq_iff_eq.mpr c80
                              have c80b1 : (t627 != 6) = false := bne_eq_false_iff_eq.mpr c80
                              clear c80
                              replace H := Option.bind_eq_some_iff.mp H
                              obtain ⟨t628, A810, H⟩ := H
                              replace H : (some t628) = some r := H
                              have A81 := Aside0.mk A810
                              clear A810
                              as_aux_lemma =>
                                obtain rfl := Option.some.inj H
                                go_wp2_with (first | ((with_reducible refine gate_callee (f := 53) rfl ?_); refine goesL_ (some 177) rfl rfl Try.func53 (by kernel_rfl) rfl #[.slice A0_0 (l0_0.take ((ji2) : Int).toNat).length c0_0, .slice A0_1 (l0_1.take ((ji5) : Int).toNat).length c0_1] rfl (by (try simp only [List.map_toArray, List.map_cons, List.map_nil]); first | done | (rw [show (l0_0.take ((ji2) : Int).toNat).length = (ji2).toNat from (by rw [List.length_take]; have h_ : ((ji2) : Int) ≤ (l0_0.length : Int) := (by first | exact of_decide_eq_true (by first | (with_reducible assumption) | assumption) | (rw [← hji2]; unfold mn; split <;> omega)); omega)] <;> rfl) | (rw [show (l0_1.take ((ji5) : Int).toNat).length = (ji5).toNat from (by rw [List.length_take]; have h_ : ((ji5) : Int) ≤ (l0_1.length : Int) := (by first | exact of_decide_eq_true (by first | (with_reducible assumption) | assumption) | (rw [← hji5]; unfold mn; split <;> omega)); omega)] <;> rfl) | ((try rw [show (l0_0.take ((ji2) : Int).toNat).length = (ji2).toNat from (by rw [List.length_take]; have h_ : ((ji2) : Int) ≤ (l0_0.length : Int) := (by first | exact of_decide_eq_true (by first | (with_reducible assumption) | assumption) | (rw [← hji2]; unfold mn; split <;> omega)); omega)]); (try rw [show (l0_1.take ((ji5) : Int).toNat).length = (ji5).toNat from (by rw [List.length_take]; have h_ : ((ji5) : Int) ≤ (l0_1.length : Int) := (by first | exact of_decide_eq_true (by first | (with_reducible assumption) | assumption) | (rw [← hji5]; unfold mn; split <;> omega)); omega)]); rfl) | (simp only [hji2, hji5]; rfl) | rfl | (simp only [List.length_drop, List.length_take]; rfl)) ?_; (with_reducible refine (field_Divide.calls kj32 (fun k_ => k_ < w.heap.size) _ _ (l0_0.take ((ji2) : Int).toNat) (fun k_ => k_ < w.heap.size) _ _ (l0_1.take ((ji5) : Int).toNat) t621 t624 t627 _ ?side1 ?side2 A78.out).mono ?_); (case side1 => exact Kd.V_mk HC589.out (Kd.F_below (Kd.C_F (Kd.heap_int .u8) HR589.out) (by repeat (first | (with_reducible first | exact HB.out | apply below_alloc | apply pw_below_drewN | apply below_drew1 | refine below_set ?_ GE588.out) | exact HB.out)))); (case side2 => exact Kd.V_mk HC590.out (Kd.F_below (Kd.C_F (Kd.heap_int .u8) HR590.out) (by repeat (first | (with_reducible first | exact HB.out | apply below_alloc | apply pw_below_drewN | apply below_drew1 | refine below_set ?_ GE588.out) | exact HB.out)))); rintro e w82 ⟨v622, v625, rfl, ho0, ho1, hb⟩; refine ⟨_, rfl, ?_⟩; have n0_ := Aside0.mk (Kd.R_mono (Kd.R_told (Kd.R_told (Kd.R_old (by (with_reducible repeat (first | apply Kd.R_alloc | apply Kd.R_drewN | apply Kd.R_drew)); exact HO_11.out) hb) (Kd.R_base ho0)) (Kd.R_base ho1)) (fun _ h_ => h_.1)); have n1_ := Aside0.mk (Kd.R_mono (Kd.R_told (Kd.R_told (Kd.R_old (by (with_reducible repeat (first | apply Kd.R_alloc | apply Kd.R_drewN | apply Kd.R_drew)); exact HO_13.out) hb) (Kd.R_base ho0)) (Kd.R_base ho1)) (fun _ h_ => h_.1)); have n2_ := Aside0.mk (Kd.R_lower (Kd.R_new' (Kd.R_new' (Kd.R_mono (ok' := fun k_ => some k_ ≠ (v625 : Value).ownBlock) ho0 (fun _ hk_ => hk_.2)) (Kd.R_lt (by (with_reducible repeat (first | apply Kd.R_alloc | apply Kd.R_drewN | apply Kd.R_drew)); exact HO_11.out))) (Kd.R_lt (by (with_reducible repeat (first | apply Kd.R_alloc | apply Kd.R_drewN | apply Kd.R_drew)); exact HO_13.out))) (below_size (by repeat (first | (with_reducible first | exact HB.out | apply below_alloc | apply pw_below_drewN | apply below_drew1 | refine below_set ?_ GE588.out) | exact HB.out)))); have n3_ := Aside0.mk (Kd.R_lower (Kd.R_new' (Kd.R_new' (Kd.R_mono (ok' := fun k_ => some k_ ≠ (v622 : Value).ownBlock) ho1 (fun _ hk_ => hk_.2)) (Kd.R_lt (by (with_reducible repeat (first | apply Kd.R_alloc | apply Kd.R_drewN | apply Kd.R_drew)); exact HO_11.out))) (Kd.R_lt (by (with_reducible repeat (first | apply Kd.R_alloc | apply Kd.R_drewN | apply Kd.R_drew)); exact HO_13.out))) (below_size (by repeat (first | (with_reducible first | exact HB.out | apply below_alloc | apply pw_below_drewN | apply below_drew1 | refine below_set ?_ GE588.out) | exact HB.out)))); have n4_ := Aside0.mk (blk_below (g := gb588) (o := .cells #[.slice A0_0 l0_0.length c0_0, .slice A0_1 l0_1.length c0_1, .slice A0_2 l0_2.length c0_2, .int .u8 a0_3] 63 (0, 0)) (by (with_reducible repeat (first | refine blk_drewN ?_ _ | refine blk_drew ?_ | refine blk_alloc ?_ _)); exact BK588.out) hb); have n5_ := Aside0.mk (below_step (by repeat (first | (with_reducible first | exact HB.out | apply below_alloc | apply pw_below_drewN | apply below_drew1 | refine below_set ?_ GE588.out) | exact HB.out)) hb); clear HO_11; clear HO_13; clear BK588; clear HB; have HO_11 := n0_; have HO_13 := n1_; have HO623 := n2_; have HO626 := n3_; have BK588 := n4_; have HB := n5_; clear n0_ n1_ n2_ n3_ n4_ n5_; (try clear hb); (try clear hb2); (try clear hk); (try clear hi); (try clear ho0); (try clear ho1); obtain ⟨Ao83, co83, eo83⟩ := Kd.R_slice HO_13.out; subst eo83) | (go_at_call 32; (with_reducible refine (foghornlaw18_awake.calls kj32  t628 _ A81.out).mono ?_); rintro e w84 ⟨rfl, hb⟩; have n0_ := Aside0.mk (Kd.R_below (by (with_reducible repeat (first | apply Kd.R_alloc | apply Kd.R_drewN | apply Kd.R_drew)); exact HO_11.out) hb); have n1_ := Aside0.mk (Kd.R_below (by (with_reducible repeat (first | apply Kd.R_alloc | apply Kd.R_drewN | apply Kd.R_drew)); exact HO_13.out) hb); have n2_ := Aside0.mk (Kd.R_below (by (with_reducible repeat (first | apply Kd.R_alloc | apply Kd.R_drewN | apply Kd.R_drew)); exact HO623.out) hb); have n3_ := Aside0.mk (Kd.R_below (by (with_reducible repeat (first | apply Kd.R_alloc | apply Kd.R_drewN | apply Kd.R_drew)); exact HO626.out) hb); have n4_ := Aside0.mk (blk_below (g := gb588) (o := .cells #[.slice A0_0 l0_0.length c0_0, .slice A0_1 l0_1.length c0_1, .slice A0_2 l0_2.length c0_2, .int .u8 a0_3] 63 (0, 0)) (by (with_reducible repeat (first | refine blk_drewN ?_ _ | refine blk_drew ?_ | refine blk_alloc ?_ _)); exact BK588.out) hb); have n5_ := Aside0.mk (below_step (by repeat (first | (with_reducible first | exact HB.out | apply below_alloc | apply pw_below_drewN | apply below_drew1 | refine below_set ?_ GE588.out) | exact HB.out)) hb); clear HO_11; clear HO_13; clear HO623; clear HO626; clear BK588; clear HB; have HO_11 := n0_; have HO_13 := n1_; have HO623 := n2_; have HO626 := n3_; have BK588 := n4_; have HB := n5_; clear n0_ n1_ n2_ n3_ n4_ n5_; (try clear hb); (try clear hb2); (try clear hk); (try clear hi)))
                                go_ret
                                exact ⟨by first | rfl | (simp [errW_none, errW_some] <;> rfl) | (simp only [← hji2, ← hji5, ← hji8]; first | rfl | (simp [errW_none, errW_some] <;> rfl)) | (simp [*, errW_none, errW_some] <;> rfl), by repeat (first | (with_reducible first | exact HB.out | apply below_alloc | apply pw_below_drewN | apply below_drew1 | refine below_set ?_ GE588.out) | exact HB.out)⟩
                            · rw [if_neg c80] at H
                              have c80b0 : (t627 == 6) = false := beq_eq_false_iff_ne.mpr c80
                              have c80b1 : (t627 != 6) = true := bne_iff_ne.mpr c80
                              as_aux_lemma =>
                                exact absurd ((Option.some.inj H).trans HQ_.out) (by decide)
                          · rw [if_neg c79] at H
                            have c79b0 : ((t604.length : Int) == 0) = false := beq_eq_false_iff_ne.mpr c79
                            have c79b1 : ((t604.length : Int) != 0) = true := bne_iff_ne.mpr c79
                            have c79b2 : ¬ (t604 = []) := fun h_ => c79 (by rw [h_]; rfl)
                            replace H := Option.bind_eq_some_iff.mp H
                            obtain ⟨⟨t629, t632⟩, A850, H⟩ := H
                            replace H : ((field_Sum.f kj32 t629 t624).bind fun bt633 => (if t627 = 0 then (if t632 = 0 then (if bt633.2 = 0 then (if (t624.length : Int) ≥ (t604.length : Int) then (foghornlaw18_FieldRings.j2 kj32 (l0_0.take ((ji2) : Int).toNat) (l0_1.take ((ji5) : Int).toNat) (l0_2.take ((ji8) : Int).toNat) true) else ((foghornlaw18_same.f kj32 bt633.1 t600).bind fun t637 => (foghornlaw18_FieldRings.j2 kj32 (l0_0.take ((ji2) : Int).toNat) (l0_1.take ((ji5) : Int).toNat) (l0_2.take ((ji8) : Int).toNat) (!t637)))) else (foghornlaw18_FieldRings.j2 kj32 (l0_0.take ((ji2) : Int).toNat) (l0_1.take ((ji5) : Int).toNat) (l0_2.take ((ji8) : Int).toNat) true)) else (foghornlaw18_FieldRings.j2 kj32 (l0_0.take ((ji2) : Int).toNat) (l0_1.take ((ji5) : Int).toNat) (l0_2.take ((ji8) : Int).toNat) true)) else (foghornlaw18_FieldRings.j2 kj32 (l0_0.take ((ji2) : Int).toNat) (l0_1.take ((ji5) : Int).toNat) (l0_2.take ((ji8) : Int).toNat) true))) = some r := H
                            have A85 := Aside0.mk A850
                            clear A850
                            replace H := Option.bind_eq_some_iff.mp H
                            obtain ⟨⟨t633, t636⟩, A860, H⟩ := H
                            replace H : (if t627 = 0 then (if t632 = 0 then (if t636 = 0 then (if (t624.length : Int) ≥ (t604.length : Int) then (foghornlaw18_FieldRings.j2 kj32 (l0_0.take ((ji2) : Int).toNat) (l0_1.take ((ji5) : Int).toNat) (l0_2.take ((ji8) : Int).toNat) true) else ((foghornlaw18_same.f kj32 t633 t600).bind fun t637 => (foghornlaw18_FieldRings.j2 kj32 (l0_0.take ((ji2) : Int).toNat) (l0_1.take ((ji5) : Int).toNat) (l0_2.take ((ji8) : Int).toNat) (!t637)))) else (foghornlaw18_FieldRings.j2 kj32 (l0_0.take ((ji2) : Int).toNat) (l0_1.take ((ji5) : Int).toNat) (l0_2.take ((ji8) : Int).toNat) true)) else (foghornlaw18_FieldRings.j2 kj32 (l0_0.take ((ji2) : Int).toNat) (l0_1.take ((ji5) : Int).toNat) (l0_2.take ((ji8) : Int).toNat) true)) else (foghornlaw18_FieldRings.j2 kj32 (l0_0.take ((ji2) : Int).toNat) (l0_1.take ((ji5) : Int).toNat) (l0_2.take ((ji8) : Int).toNat) true)) = some r := H
                            have A86 := Aside0.mk A860
                            clear A860
                            have HC87 := Aside0.mk H
                            clear H
                            go_upto_region 22 with (first | ((with_reducible refine gate_callee (f := 53) rfl ?_); refine goesL_ (some 177) rfl rfl Try.func53 (by kernel_rfl) rfl #[.slice A0_0 (l0_0.take ((ji2) : Int).toNat).length c0_0, .slice A0_1 (l0_1.take ((ji5) : Int).toNat).length c0_1] rfl (by (try simp only [List.map_toArray, List.map_cons, List.map_nil]); first | done | (rw [show (l0_0.take ((ji2) : Int).toNat).length = (ji2).toNat from (by rw [List.length_take]; have h_ : ((ji2) : Int) ≤ (l0_0.length : Int) := (by first | exact of_decide_eq_true (by first | (with_reducible assumption) | assumption) | (rw [← hji2]; unfold mn; split <;> omega)); omega)] <;> rfl) | (rw [show (l0_1.take ((ji5) : Int).toNat).length = (ji5).toNat from (by rw [List.length_take]; have h_ : ((ji5) : Int) ≤ (l0_1.length : Int) := (by first | exact of_decide_eq_true (by first | (with_reducible assumption) | assumption) | (rw [← hji5]; unfold mn; split <;> omega)); omega)] <;> rfl) | ((try rw [show (l0_0.take ((ji2) : Int).toNat).length = (ji2).toNat from (by rw [List.length_take]; have h_ : ((ji2) : Int) ≤ (l0_0.length : Int) := (by first | exact of_decide_eq_true (by first | (with_reducible assumption) | assumption) | (rw [← hji2]; unfold mn; split <;> omega)); omega)]); (try rw [show (l0_1.take ((ji5) : Int).toNat).length = (ji5).toNat from (by rw [List.length_take]; have h_ : ((ji5) : Int) ≤ (l0_1.length : Int) := (by first | exact of_decide_eq_true (by first | (with_reducible assumption) | assumption) | (rw [← hji5]; unfold mn; split <;> omega)); omega)]); rfl) | (simp only [hji2, hji5]; rfl) | rfl | (simp only [List.length_drop, List.length_take]; rfl)) ?_; (with_reducible refine (field_Divide.calls kj32 (fun k_ => k_ < w.heap.size) _ _ (l0_0.take ((ji2) : Int).toNat) (fun k_ => k_ < w.heap.size) _ _ (l0_1.take ((ji5) : Int).toNat) t621 t624 t627 _ ?side1 ?side2 A78.out).mono ?_); (case side1 => exact Kd.V_mk HC589.out (Kd.F_below (Kd.C_F (Kd.heap_int .u8) HR589.out) (by repeat (first | (with_reducible first | exact HB.out | apply below_alloc | apply pw_below_drewN | apply below_drew1 | refine below_set ?_ GE588.out) | exact HB.out)))); (case side2 => exact Kd.V_mk HC590.out (Kd.F_below (Kd.C_F (Kd.heap_int .u8) HR590.out) (by repeat (first | (with_reducible first | exact HB.out | apply below_alloc | apply pw_below_drewN | apply below_drew1 | refine below_set ?_ GE588.out) | exact HB.out)))); rintro e w88 ⟨v622, v625, rfl, ho0, ho1, hb⟩; refine ⟨_, rfl, ?_⟩; have n0_ := Aside0.mk (Kd.R_mono (Kd.R_told (Kd.R_told (Kd.R_old (by (with_reducible repeat (first | apply Kd.R_alloc | apply Kd.R_drewN | apply Kd.R_drew)); exact HO_11.out) hb) (Kd.R_base ho0)) (Kd.R_base ho1)) (fun _ h_ => h_.1)); have n1_ := Aside0.mk (Kd.R_mono (Kd.R_told (Kd.R_told (Kd.R_old (by (with_reducible repeat (first | apply Kd.R_alloc | apply Kd.R_drewN | apply Kd.R_drew)); exact HO_13.out) hb) (Kd.R_base ho0)) (Kd.R_base ho1)) (fun _ h_ => h_.1)); have n2_ := Aside0.mk (Kd.R_lower (Kd.R_new' (Kd.R_new' (Kd.R_mono (ok' := fun k_ => some k_ ≠ (v625 : Value).ownBlock) ho0 (fun _ hk_ => hk_.2)) (Kd.R_lt (by (with_reducible repeat (first | apply Kd.R_alloc | apply Kd.R_drewN | apply Kd.R_drew)); exact HO_11.out))) (Kd.R_lt (by (with_reducible repeat (first | apply Kd.R_alloc | apply Kd.R_drewN | apply Kd.R_drew)); exact HO_13.out))) (below_size (by repeat (first | (with_reducible first | exact HB.out | apply below_alloc | apply pw_below_drewN | apply below_drew1 | refine below_set ?_ GE588.out) | exact HB.out)))); have n3_ := Aside0.mk (Kd.R_lower (Kd.R_new' (Kd.R_new' (Kd.R_mono (ok' := fun k_ => some k_ ≠ (v622 : Value).ownBlock) ho1 (fun _ hk_ => hk_.2)) (Kd.R_lt (by (with_reducible repeat (first | apply Kd.R_alloc | apply Kd.R_drewN | apply Kd.R_drew)); exact HO_11.out))) (Kd.R_lt (by (with_reducible repeat (first | apply Kd.R_alloc | apply Kd.R_drewN | apply Kd.R_drew)); exact HO_13.out))) (below_size (by repeat (first | (with_reducible first | exact HB.out | apply below_alloc | apply pw_below_drewN | apply below_drew1 | refine below_set ?_ GE588.out) | exact HB.out)))); have n4_ := Aside0.mk (blk_below (g := gb588) (o := .cells #[.slice A0_0 l0_0.length c0_0, .slice A0_1 l0_1.length c0_1, .slice A0_2 l0_2.length c0_2, .int .u8 a0_3] 63 (0, 0)) (by (with_reducible repeat (first | refine blk_drewN ?_ _ | refine blk_drew ?_ | refine blk_alloc ?_ _)); exact BK588.out) hb); have n5_ := Aside0.mk (below_step (by repeat (first | (with_reducible first | exact HB.out | apply below_alloc | apply pw_below_drewN | apply below_drew1 | refine below_set ?_ GE588.out) | exact HB.out)) hb); clear HO_11; clear HO_13; clear BK588; clear HB; have HO_11 := n0_; have HO_13 := n1_; have HO623 := n2_; have HO626 := n3_; have BK588 := n4_; have HB := n5_; clear n0_ n1_ n2_ n3_ n4_ n5_; (try clear hb); (try clear hb2); (try clear hk); (try clear hi); (try clear ho0); (try clear ho1); obtain ⟨Ao89, co89, eo89⟩ := Kd.R_slice HO_13.out; subst eo89; obtain ⟨Ao90, co90, eo90⟩ := Kd.R_slice HO623.out; subst eo90) | ((with_reducible refine gate_callee (f := 50) rfl ?_); refine goesL_ (some 192) rfl rfl Try.func50 (by kernel_rfl) rfl #[.slice Ao90 t621.length co90, .slice A0_1 (l0_1.take ((ji5) : Int).toNat).length c0_1] rfl (by (try simp only [List.map_toArray, List.map_cons, List.map_nil]); first | done | (rw [show (l0_1.take ((ji5) : Int).toNat).length = (ji5).toNat from (by rw [List.length_take]; have h_ : ((ji5) : Int) ≤ (l0_1.length : Int) := (by first | exact of_decide_eq_true (by first | (with_reducible assumption) | assumption) | (rw [← hji5]; unfold mn; split <;> omega)); omega)] <;> rfl) | (simp only [hji5]; rfl) | rfl | (simp only [List.length_drop, List.length_take]; rfl)) ?_; (with_reducible refine (field_Product.calls kj32 (fun k_ => some k_ = (.slice Ao90 t621.length co90 : Value).ownBlock) _ _ t621 (fun k_ => k_ < w.heap.size) _ _ (l0_1.take ((ji5) : Int).toNat) t629 t632 _ ?side1 ?side2 A85.out).mono ?_); (case side1 => exact Kd.R_V (Kd.R_tight rfl (Kd.R_types (HO623.out) BK588.out (by decide)))); (case side2 => exact Kd.V_mk HC590.out (Kd.F_below (Kd.C_F (Kd.heap_int .u8) HR590.out) (by repeat (first | (with_reducible first | exact HB.out | apply below_alloc | apply pw_below_drewN | apply below_drew1 | refine below_set ?_ GE588.out) | exact HB.out)))); rintro e w91 ⟨v630, rfl, ho0, hb⟩; refine ⟨_, rfl, ?_⟩; have n0_ := Aside0.mk (Kd.R_elder' (by (with_reducible repeat (first | apply Kd.R_alloc | apply Kd.R_drewN | apply Kd.R_drew)); exact HO_11.out) (Kd.R_base ho0) hb); have n1_ := Aside0.mk (Kd.R_elder' (by (with_reducible repeat (first | apply Kd.R_alloc | apply Kd.R_drewN | apply Kd.R_drew)); exact HO_13.out) (Kd.R_base ho0) hb); have n2_ := Aside0.mk (Kd.R_elder' (by (with_reducible repeat (first | apply Kd.R_alloc | apply Kd.R_drewN | apply Kd.R_drew)); exact HO623.out) (Kd.R_base ho0) hb); have n3_ := Aside0.mk (Kd.R_elder' (by (with_reducible repeat (first | apply Kd.R_alloc | apply Kd.R_drewN | apply Kd.R_drew)); exact HO626.out) (Kd.R_base ho0) hb); have n4_ := Aside0.mk (Kd.R_lower (Kd.R_new' (Kd.R_new' (Kd.R_new' (Kd.R_new' (Kd.R_mono (ok' := fun k_ => True) ho0 (fun _ hk_ => trivial)) (Kd.R_lt (by (with_reducible repeat (first | apply Kd.R_alloc | apply Kd.R_drewN | apply Kd.R_drew)); exact HO_11.out))) (Kd.R_lt (by (with_reducible repeat (first | apply Kd.R_alloc | apply Kd.R_drewN | apply Kd.R_drew)); exact HO_13.out))) (Kd.R_lt (by (with_reducible repeat (first | apply Kd.R_alloc | apply Kd.R_drewN | apply Kd.R_drew)); exact HO623.out))) (Kd.R_lt (by (with_reducible repeat (first | apply Kd.R_alloc | apply Kd.R_drewN | apply Kd.R_drew)); exact HO626.out))) (below_size (by repeat (first | (with_reducible first | exact HB.out | apply below_alloc | apply pw_below_drewN | apply below_drew1 | refine below_set ?_ GE588.out) | exact HB.out)))); have n5_ := Aside0.mk (blk_below (g := gb588) (o := .cells #[.slice A0_0 l0_0.length c0_0, .slice A0_1 l0_1.length c0_1, .slice A0_2 l0_2.length c0_2, .int .u8 a0_3] 63 (0, 0)) (by (with_reducible repeat (first | refine blk_drewN ?_ _ | refine blk_drew ?_ | refine blk_alloc ?_ _)); exact BK588.out) hb); have n6_ := Aside0.mk (below_step (by repeat (first | (with_reducible first | exact HB.out | apply below_alloc | apply pw_below_drewN | apply below_drew1 | refine below_set ?_ GE588.out) | exact HB.out)) hb); clear HO_11; clear HO_13; clear HO623; clear HO626; clear BK588; clear HB; have HO_11 := n0_; have HO_13 := n1_; have HO623 := n2_; have HO626 := n3_; have HO631 := n4_; have BK588 := n5_; have HB := n6_; clear n0_ n1_ n2_ n3_ n4_ n5_ n6_; (try clear hb); (try clear hb2); (try clear hk); (try clear hi); (try clear ho0); obtain ⟨Ao92, co92, eo92⟩ := Kd.R_slice HO631.out; subst eo92; obtain ⟨Ao93, co93, eo93⟩ := Kd.R_slice HO626.out; subst eo93) | ((with_reducible refine gate_callee (f := 49) rfl ?_); refine goesL_ (some 198) rfl rfl Try.func49 (by kernel_rfl) rfl #[.slice Ao92 t629.length co92, .slice Ao93 t624.length co93] rfl (by (try simp only [List.map_toArray, List.map_cons, List.map_nil]); first | done | rfl | (simp only [List.length_drop, List.length_take]; rfl)) ?_; (with_reducible refine (field_Sum.calls kj32 (fun k_ => some k_ = (.slice Ao92 t629.length co92 : Value).ownBlock) _ _ t629 (fun k_ => some k_ = (.slice Ao93 t624.length co93 : Value).ownBlock) _ _ t624 t633 t636 _ ?side1 ?side2 A86.out).mono ?_); (case side1 => exact Kd.R_V (Kd.R_tight rfl (Kd.R_types (HO631.out) BK588.out (by decide)))); (case side2 => exact Kd.R_V (Kd.R_tight rfl (Kd.R_types (HO626.out) BK588.out (by decide)))); rintro e w94 ⟨v634, rfl, ho0, hb⟩; refine ⟨_, rfl, ?_⟩; have n0_ := Aside0.mk (Kd.R_elder' (by (with_reducible repeat (first | apply Kd.R_alloc | apply Kd.R_drewN | apply Kd.R_drew)); exact HO_11.out) (Kd.R_base ho0) hb); have n1_ := Aside0.mk (Kd.R_elder' (by (with_reducible repeat (first | apply Kd.R_alloc | apply Kd.R_drewN | apply Kd.R_drew)); exact HO_13.out) (Kd.R_base ho0) hb); have n2_ := Aside0.mk (Kd.R_elder' (by (with_reducible repeat (first | apply Kd.R_alloc | apply Kd.R_drewN | apply Kd.R_drew)); exact HO623.out) (Kd.R_base ho0) hb); have n3_ := Aside0.mk (Kd.R_elder' (by (with_reducible repeat (first | apply Kd.R_alloc | apply Kd.R_drewN | apply Kd.R_drew)); exact HO626.out) (Kd.R_base ho0) hb); have n4_ := Aside0.mk (Kd.R_elder' (by (with_reducible repeat (first | apply Kd.R_alloc | apply Kd.R_drewN | apply Kd.R_drew)); exact HO631.out) (Kd.R_base ho0) hb); have n5_ := Aside0.mk (Kd.R_lower (Kd.R_new' (Kd.R_new' (Kd.R_new' (Kd.R_new' (Kd.R_new' (Kd.R_mono (ok' := fun k_ => True) ho0 (fun _ hk_ => trivial)) (Kd.R_lt (by (with_reducible repeat (first | apply Kd.R_alloc | apply Kd.R_drewN | apply Kd.R_drew)); exact HO_11.out))) (Kd.R_lt (by (with_reducible repeat (first | apply Kd.R_alloc | apply Kd.R_drewN | apply Kd.R_drew)); exact HO_13.out))) (Kd.R_lt (by (with_reducible repeat (first | apply Kd.R_alloc | apply Kd.R_drewN | apply Kd.R_drew)); exact HO623.out))) (Kd.R_lt (by (with_reducible repeat (first | apply Kd.R_alloc | apply Kd.R_drewN | apply Kd.R_drew)); exact HO626.out))) (Kd.R_lt (by (with_reducible repeat (first | apply Kd.R_alloc | apply Kd.R_drewN | apply Kd.R_drew)); exact HO631.out))) (below_size (by repeat (first | (with_reducible first | exact HB.out | apply below_alloc | apply pw_below_drewN | apply below_drew1 | refine below_set ?_ GE588.out) | exact HB.out)))); have n6_ := Aside0.mk (blk_below (g := gb588) (o := .cells #[.slice A0_0 l0_0.length c0_0, .slice A0_1 l0_1.length c0_1, .slice A0_2 l0_2.length c0_2, .int .u8 a0_3] 63 (0, 0)) (by (with_reducible repeat (first | refine blk_drewN ?_ _ | refine blk_drew ?_ | refine blk_alloc ?_ _)); exact BK588.out) hb); have n7_ := Aside0.mk (below_step (by repeat (first | (with_reducible first | exact HB.out | apply below_alloc | apply pw_below_drewN | apply below_drew1 | refine below_set ?_ GE588.out) | exact HB.out)) hb); clear HO_11; clear HO_13; clear HO623; clear HO626; clear HO631; clear BK588; clear HB; have HO_11 := n0_; have HO_13 := n1_; have HO623 := n2_; have HO626 := n3_; have HO631 := n4_; have HO635 := n5_; have BK588 := n6_; have HB := n7_; clear n0_ n1_ n2_ n3_ n4_ n5_ n6_ n7_; (try clear hb); (try clear hb2); (try clear hk); (try clear hi); (try clear ho0)))
                            (try simp only [Act.put, List.setIfInBounds_toArray, List.set_cons_zero, List.set_cons_succ])
                            go_cut [223] (fun v223 wc => ∃ (kq : Nat) (x223_86 : Bool), v223 = .bool x223_86 ∧ Aside0 (foghornlaw18_FieldRings.j2 kq (l0_0.take ((ji2) : Int).toNat) (l0_1.take ((ji5) : Int).toNat) (l0_2.take ((ji8) : Int).toNat) x223_86 = some r) ∧ Aside0 (kq ≤ kj32) ∧ Aside0 (wc.heap[gb588]? = some (.cells #[(.slice A0_0 l0_0.length c0_0), (.slice A0_1 l0_1.length c0_1), (.slice A0_2 l0_2.length c0_2), .int .u8 a0_3] 63 (0, 0))) ∧ Aside0 (Below w.heap.size w wc))
                            case first =>
                              have H := HC87.out
                              clear HC87
                              by_cases c95 : t627 = 0
                              · rw [if_pos c95] at H
                                have c95b0 : (t627 == 0) = true := beq_iff_eq.mpr c95
                                have c95b1 : (t627 != 0) = false := bne_eq_false_iff_eq.mpr c95
                                clear c95
                                (first | rw [c95b0] | (simp only [i64_w, i32_w]; rw [c95b0]) | skip)
                                by_cases c96 : t632 = 0
                                · rw [if_pos c96] at H
                                  have c96b0 : (t632 == 0) = true := beq_iff_eq.mpr c96
                                  have c96b1 : (t632 != 0) = false := bne_eq_false_iff_eq.mpr c96
                                  clear c96
                                  by_cases c97 : t636 = 0
                                  · rw [if_pos c97] at H
                                    have c97b0 : (t636 == 0) = true := beq_iff_eq.mpr c97
                                    have c97b1 : (t636 != 0) = false := bne_eq_false_iff_eq.mpr c97
                                    clear c97
                                    by_cases c98 : (t624.length : Int) ≥ (t604.length : Int)
                                    · rw [if_pos c98] at H
                                      have c98b0 : decide ((t604.length : Int) ≤ (t624.length : Int)) = true := decide_eq_true c98
                                      have c98b1 : decide (t604.length ≤ t624.length) = true := decide_eq_true (Int.ofNat_le.mp c98)
                                      clear c98
                                      as_aux_lemma =>
                                        have H' := Aside0.mk H
                                        clear H
                                        go_wp2
                                        go_meet
                                        case rel => exact ⟨_, (true), (by first | rfl | (simp; done) | (simp [*]; done)), H', ⟨by have := HJ14.out; have := HJ32.out; first | omega | exact Nat.le_refl _⟩, ⟨by (with_reducible repeat (first | refine blk_drewN ?_ _ | refine blk_drew ?_ | refine blk_alloc ?_ _)); exact BK588.out⟩, ⟨by repeat (first | (with_reducible first | exact HB.out | apply below_alloc | apply pw_below_drewN | apply below_drew1 | refine below_set ?_ GE588.out) | exact HB.out)⟩⟩
                                    · rw [if_neg c98] at H
                                      have c98b0 : decide ((t604.length : Int) ≤ (t624.length : Int)) = false := decide_eq_false c98
                                      have c98b1 : decide (t604.length ≤ t624.length) = false := decide_eq_false (fun h => c98 (Int.ofNat_le.mpr h))
                                      clear c98
                                      replace H := Option.bind_eq_some_iff.mp H
                                      obtain ⟨t637, A990, H⟩ := H
                                      replace H : (foghornlaw18_FieldRings.j2 kj32 (l0_0.take ((ji2) : Int).toNat) (l0_1.take ((ji5) : Int).toNat) (l0_2.take ((ji8) : Int).toNat) (!t637)) = some r := H
                                      have A99 := Aside0.mk A990
                                      clear A990
                                      as_aux_lemma =>
                                        have H' := Aside0.mk H
                                        clear H
                                        obtain ⟨Ao100, co100, eo100⟩ := Kd.R_slice HO635.out
                                        subst eo100
                                        obtain ⟨Ao101, co101, eo101⟩ := Kd.R_slice HO_11.out
                                        subst eo101
                                        go_wp2_with (first | (go_at_call 54; (with_reducible refine (foghornlaw18_same.calls kj32 _ _ t633 _ _ t600 t637 _ ?side1 ?side2 ?side3 ?side4 A99.out).mono ?_); (case side1 => repeat (first | exact (Kd.R_reads' HO635.out).2.2 | (with_reducible refine Kd.C_alloc ?_ _) | (with_reducible refine Kd.C_drewN ?_ _) | (with_reducible refine Kd.C_drew ?_))); (case side2 => exact (Kd.R_reads' HO635.out).2.1); (case side3 => repeat (first | exact (Kd.R_reads' HO_11.out).2.2 | (with_reducible refine Kd.C_alloc ?_ _) | (with_reducible refine Kd.C_drewN ?_ _) | (with_reducible refine Kd.C_drew ?_))); (case side4 => exact (Kd.R_reads' HO_11.out).2.1); rintro e w' ⟨rfl, ⟨nd, rfl⟩⟩))
                                        go_meet
                                        case rel => exact ⟨_, (!t637), (by first | rfl | (simp; done) | (simp [*]; done)), H', ⟨by have := HJ14.out; have := HJ32.out; first | omega | exact Nat.le_refl _⟩, ⟨by (with_reducible repeat (first | refine blk_drewN ?_ _ | refine blk_drew ?_ | refine blk_alloc ?_ _)); exact BK588.out⟩, ⟨by repeat (first | (with_reducible first | exact HB.out | apply below_alloc | apply pw_below_drewN | apply below_drew1 | refine below_set ?_ GE588.out) | exact HB.out)⟩⟩
                                  · rw [if_neg c97] at H
                                    have c97b0 : (t636 == 0) = false := beq_eq_false_iff_ne.mpr c97
                                    have c97b1 : (t636 != 0) = true := bne_iff_ne.mpr c97
                                    as_aux_lemma =>
                                      have H' := Aside0.mk H
                                      clear H
                                      go_wp2
                                      go_meet
                                      case rel => exact ⟨_, (true), (by first | rfl | (simp; done) | (simp [*]; done)), H', ⟨by have := HJ14.out; have := HJ32.out; first | omega | exact Nat.le_refl _⟩, ⟨by (with_reducible repeat (first | refine blk_drewN ?_ _ | refine blk_drew ?_ | refine blk_alloc ?_ _)); exact BK588.out⟩, ⟨by repeat (first | (with_reducible first | exact HB.out | apply below_alloc | apply pw_below_drewN | apply below_drew1 | refine below_set ?_ GE588.out) | exact HB.out)⟩⟩
                                · rw [if_neg c96] at H
                                  have c96b0 : (t632 == 0) = false := beq_eq_false_iff_ne.mpr c96
                                  have c96b1 : (t632 != 0) = true := bne_iff_ne.mpr c96
                                  as_aux_lemma =>
                                    have H' := Aside0.mk H
                                    clear H
                                    go_wp2
                                    go_meet
                                    case rel => exact ⟨_, (true), (by first | rfl | (simp; done) | (simp [*]; done)), H', ⟨by have := HJ14.out; have := HJ32.out; first | omega | exact Nat.le_refl _⟩, ⟨by (with_reducible repeat (first | refine blk_drewN ?_ _ | refine blk_drew ?_ | refine blk_alloc ?_ _)); exact BK588.out⟩, ⟨by repeat (first | (with_reducible first | exact HB.out | apply below_alloc | apply pw_below_drewN | apply below_drew1 | refine below_set ?_ GE588.out) | exact HB.out)⟩⟩
                              · rw [if_neg c95] at H
                                have c95b0 : (t627 == 0) = false := beq_eq_false_iff_ne.mpr c95
                                have c95b1 : (t627 != 0) = true := bne_iff_ne.mpr c95
                                (first | rw [c95b0] | (simp only [i64_w, i32_w]; rw [c95b0]) | skip)
                                as_aux_lemma =>
                                  have H' := Aside0.mk H
                                  clear H
                                  go_wp2
                                  go_meet
                                  case rel => exact ⟨_, (true), (by first | rfl | (simp; done) | (simp [*]; done)), H', ⟨by have := HJ14.out; have := HJ32.out; first | omega | exact Nat.le_refl _⟩, ⟨by (with_reducible repeat (first | refine blk_drewN ?_ _ | refine blk_drew ?_ | refine blk_alloc ?_ _)); exact BK588.out⟩, ⟨by repeat (first | (with_reducible first | exact HB.out | apply below_alloc | apply pw_below_drewN | apply below_drew1 | refine below_set ?_ GE588.out) | exact HB.out)⟩⟩
                            case rest =>
                              clear HC87
                              try clear c1
                              try clear c2
                              try clear p2
                              try clear c3
                              try clear c3b0
                              try clear c3b1
                              try clear c4
                              try clear c4b0
                              try clear c4b1
                              try clear c5
                              try clear c6
                              try clear c6b0
                              try clear c6b1
                              try clear p6
                              try clear c7
                              try clear c7b0
                              try clear c7b1
                              try clear c8
                              try clear c9
                              try clear c9b0
                              try clear c9b1
                              try clear c10
                              try clear c10b0
                              try clear c10b1
                              try clear c11
                              try clear c25
                              try clear c25b0
                              try clear c25b1
                              try clear c26
                              try clear c26b0
                              try clear c26b1
                              try clear c27
                              try clear c27b0
                              try clear c27b1
                              try clear c28
                              try clear c40
                              try clear c40b0
                              try clear c40b1
                              try clear c41
                              try clear c41b0
                              try clear c41b1
                              try clear c43
                              try clear c43b0
                              try clear c43b1
                              try clear c45
                              try clear c45b0
                              try clear c45b1
                              try clear c46
                              try clear c46b0
                              try clear c46b1
                              try clear c47
                              try clear c47b0
                              try clear c47b1
                              try clear c49
                              try clear c50
                              try clear c51
                              try clear c51b0
                              try clear c51b1
                              try clear c52
                              try clear c52b0
                              try clear c52b1
                              try clear c52b2
                              try clear c53
                              try clear c55
                              try clear c55b0
                              try clear c55b1
                              try clear c55b2
                              try clear c62
                              try clear c62b0
                              try clear c62b1
                              try clear c62b2
                              try clear p64
                              try clear c65
                              try clear c65b0
                              try clear c65b1
                              try clear c65b2
                              try clear c70
                              try clear c70b0
                              try clear c70b1
                              try clear c70b2
                              try clear c72
                              try clear c72b0
                              try clear c72b1
                              try clear c72b2
                              try clear c77
                              try clear c79
                              try clear c79b0
                              try clear c79b1
                              try clear c79b2
                              try clear c80
                              try clear c80b0
                              try clear c80b1
                              try clear c95
                              try clear c95b0
                              try clear c95b1
                              try clear c96
                              try clear c96b0
                              try clear c96b1
                              try clear c97
                              try clear c97b0
                              try clear c97b1
                              try clear c98
                              try clear c98b0
                              try clear c98b1
                              try clear hcz17_0
                              try clear hcz17_1
                              try clear hcz17_2
                              try clear hcz17_3
                              try clear hfz17_0
                              try clear hfz17_1
                              try clear hfz17_2
                              try clear hfz17_3
                              try clear p2
                              try clear p6
                              try clear p64
                              obtain ⟨kq, x223_86, rfl, HA, HJ86, BK588, HB⟩ := hcut
                              cases kq with
                              | zero => exact absurd HA.out (by simp [foghornlaw18_FieldRings.j2])
                              | succ kj86 =>
                                have H := HA.out
                                clear HA
                                simp only [foghornlaw18_FieldRings.j2] at H
                                by_cases c102 : x223_86 = true
                                · subst c102
                                  have H1 : (some false) = some r := by rw [if_pos rfl] at H; exact H
                                  clear H
                                  have H := H1
                                  clear H1
                                  as_aux_lemma =>
                                    exact absurd ((Option.some.inj H).trans HQ_.out) (by decide)
                                · replace c102 := Bool.eq_false_iff.mpr c102
                                  subst c102
                                  have H1 : ((field_Product.f kj86 (l0_0.take ((ji2) : Int).toNat) (l0_2.take ((ji8) : Int).toNat)).bind fun bt638 => ((field_Product.f kj86 (l0_1.take ((ji5) : Int).toNat) (l0_2.take ((ji8) : Int).toNat)).bind fun bt642 => ((field_Gcd.f kj86 bt638.1 bt642.1).bind fun bt646 => (if bt638.2 = 0 then (if bt642.2 = 0 then (if bt646.2 = 0 then ((foghornlaw18_divides.f kj86 bt646.1 bt638.1).bind fun t650 => (if t650 = true then ((foghornlaw18_divides.f kj86 bt646.1 bt642.1).bind fun t651 => (if t651 = true then ((foghornlaw18_divides.f kj86 (l0_2.take ((ji8) : Int).toNat) bt646.1).bind fun t652 => (if t652 = true then ((foghornlaw18_awake.f kj86).bind fun t653 => (some t653)) else (some false))) else (some false))) else (some false))) else (some false)) else (some false)) else (some false))))) = some r := by rw [if_neg (show ¬ (false = true) by decide)] at H; exact H
                                  clear H
                                  have H := H1
                                  clear H1
                                  replace H := Option.bind_eq_some_iff.mp H
                                  obtain ⟨⟨t638, t641⟩, A1030, H⟩ := H
                                  replace H : ((field_Product.f kj86 (l0_1.take ((ji5) : Int).toNat) (l0_2.take ((ji8) : Int).toNat)).bind fun bt642 => ((field_Gcd.f kj86 t638 bt642.1).bind fun bt646 => (if t641 = 0 then (if bt642.2 = 0 then (if bt646.2 = 0 then ((foghornlaw18_divides.f kj86 bt646.1 t638).bind fun t650 => (if t650 = true then ((foghornlaw18_divides.f kj86 bt646.1 bt642.1).bind fun t651 => (if t651 = true then ((foghornlaw18_divides.f kj86 (l0_2.take ((ji8) : Int).toNat) bt646.1).bind fun t652 => (if t652 = true then ((foghornlaw18_awake.f kj86).bind fun t653 => (some t653)) else (some false))) else (some false))) else (some false))) else (some false)) else (some false)) else (some false)))) = some r := H
                                  have A103 := Aside0.mk A1030
                                  clear A1030
                                  replace H := Option.bind_eq_some_iff.mp H
                                  obtain ⟨⟨t642, t645⟩, A1040, H⟩ := H
                                  replace H : ((field_Gcd.f kj86 t638 t642).bind fun bt646 => (if t641 = 0 then (if t645 = 0 then (if bt646.2 = 0 then ((foghornlaw18_divides.f kj86 bt646.1 t638).bind fun t650 => (if t650 = true then ((foghornlaw18_divides.f kj86 bt646.1 t642).bind fun t651 => (if t651 = true then ((foghornlaw18_divides.f kj86 (l0_2.take ((ji8) : Int).toNat) bt646.1).bind fun t652 => (if t652 = true then ((foghornlaw18_awake.f kj86).bind fun t653 => (some t653)) else (some false))) else (some false))) else (some false))) else (some false)) else (some false)) else (some false))) = some r := H
                                  have A104 := Aside0.mk A1040
                                  clear A1040
                                  replace H := Option.bind_eq_some_iff.mp H
                                  obtain ⟨⟨t646, t649⟩, A1050, H⟩ := H
                                  replace H : (if t641 = 0 then (if t645 = 0 then (if t649 = 0 then ((foghornlaw18_divides.f kj86 t646 t638).bind fun t650 => (if t650 = true then ((foghornlaw18_divides.f kj86 t646 t642).bind fun t651 => (if t651 = true then ((foghornlaw18_divides.f kj86 (l0_2.take ((ji8) : Int).toNat) t646).bind fun t652 => (if t652 = true then ((foghornlaw18_awake.f kj86).bind fun t653 => (some t653)) else (some false))) else (some false))) else (some false))) else (some false)) else (some false)) else (some false)) = some r := H
                                  have A105 := Aside0.mk A1050
                                  clear A1050
                                  by_cases c106 : t641 = 0
                                  · rw [if_pos c106] at H
                                    have c106b0 : (t641 == 0) = true := beq_iff_eq.mpr c106
                                    have c106b1 : (t641 != 0) = false := bne_eq_false_iff_eq.mpr c106
                                    clear c106
                                    by_cases c107 : t645 = 0
                                    · rw [if_pos c107] at H
                                      have c107b0 : (t645 == 0) = true := beq_iff_eq.mpr c107
                                      have c107b1 : (t645 != 0) = false := bne_eq_false_iff_eq.mpr c107
                                      clear c107
                                      by_cases c108 : t649 = 0
                                      · rw [if_pos c108] at H
                                        have c108b0 : (t649 == 0) = true := beq_iff_eq.mpr c108
                                        have c108b1 : (t649 != 0) = false := bne_eq_false_iff_eq.mpr c108
                                        clear c108
                                        replace H := Option.bind_eq_some_iff.mp H
                                        obtain ⟨t650, A1090, H⟩ := H
                                        replace H : (if t650 = true then ((foghornlaw18_divides.f kj86 t646 t642).bind fun t651 => (if t651 = true then ((foghornlaw18_divides.f kj86 (l0_2.take ((ji8) : Int).toNat) t646).bind fun t652 => (if t652 = true then ((foghornlaw18_awake.f kj86).bind fun t653 => (some t653)) else (some false))) else (some false))) else (some false)) = some r := H
                                        have A109 := Aside0.mk A1090
                                        clear A1090
                                        by_cases c110 : t650 = true
                                        · subst c110
                                          have H1 : ((foghornlaw18_divides.f kj86 t646 t642).bind fun t651 => (if t651 = true then ((foghornlaw18_divides.f kj86 (l0_2.take ((ji8) : Int).toNat) t646).bind fun t652 => (if t652 = true then ((foghornlaw18_awake.f kj86).bind fun t653 => (some t653)) else (some false))) else (some false))) = some r := by rw [if_pos rfl] at H; exact H
                                          clear H
                                          have H := H1
                                          clear H1
                                          replace H := Option.bind_eq_some_iff.mp H
                                          obtain ⟨t651, A1110, H⟩ := H
                                          replace H : (if t651 = true then ((foghornlaw18_divides.f kj86 (l0_2.take ((ji8) : Int).toNat) t646).bind fun t652 => (if t652 = true then ((foghornlaw18_awake.f kj86).bind fun t653 => (some t653)) else (some false))) else (some false)) = some r := H
                                          have A111 := Aside0.mk A1110
                                          clear A1110
                                          by_cases c112 : t651 = true
                                          · subst c112
                                            have H1 : ((foghornlaw18_divides.f kj86 (l0_2.take ((ji8) : Int).toNat) t646).bind fun t652 => (if t652 = true then ((foghornlaw18_awake.f kj86).bind fun t653 => (some t653)) else (some false))) = some r := by rw [if_pos rfl] at H; exact H
                                            clear H
                                            have H := H1
                                            clear H1
                                            replace H := Option.bind_eq_some_iff.mp H
                                            obtain ⟨t652, A1130, H⟩ := H
                                            replace H : (if t652 = true then ((foghornlaw18_awake.f kj86).bind fun t653 => (some t653)) else (some false)) = some r := H
                                            have A113 := Aside0.mk A1130
                                            clear A1130
                                            by_cases c114 : t652 = true
                                            · subst c114
                                              have H1 : ((foghornlaw18_awake.f kj86).bind fun t653 => (some t653)) = some r := by rw [if_pos rfl] at H; exact H
                                              clear H
                                              have H := H1
                                              clear H1
                                              replace H := Option.bind_eq_some_iff.mp H
                                              obtain ⟨t653, A1150, H⟩ := H
                                              replace H : (some t653) = some r := H
                                              have A115 := Aside0.mk A1150
                                              clear A1150
                                              as_aux_lemma =>
                                                obtain rfl := Option.some.inj H
                                                go_wp2_with (first | ((with_reducible refine gate_callee (f := 50) rfl ?_); refine goesL_ (some 227) rfl rfl Try.func50 (by kernel_rfl) rfl #[.slice A0_0 (l0_0.take ((ji2) : Int).toNat).length c0_0, .slice A0_2 (l0_2.take ((ji8) : Int).toNat).length c0_2] rfl (by (try simp only [List.map_toArray, List.map_cons, List.map_nil]); first | done | (rw [show (l0_0.take ((ji2) : Int).toNat).length = (ji2).toNat from (by rw [List.length_take]; have h_ : ((ji2) : Int) ≤ (l0_0.length : Int) := (by first | exact of_decide_eq_true (by first | (with_reducible assumption) | assumption) | (rw [← hji2]; unfold mn; split <;> omega)); omega)] <;> rfl) | (rw [show (l0_2.take ((ji8) : Int).toNat).length = (ji8).toNat from (by rw [List.length_take]; have h_ : ((ji8) : Int) ≤ (l0_2.length : Int) := (by first | exact of_decide_eq_true (by first | (with_reducible assumption) | assumption) | (rw [← hji8]; unfold mn; split <;> omega)); omega)] <;> rfl) | ((try rw [show (l0_0.take ((ji2) : Int).toNat).length = (ji2).toNat from (by rw [List.length_take]; have h_ : ((ji2) : Int) ≤ (l0_0.length : Int) := (by first | exact of_decide_eq_true (by first | (with_reducible assumption) | assumption) | (rw [← hji2]; unfold mn; split <;> omega)); omega)]); (try rw [show (l0_2.take ((ji8) : Int).toNat).length = (ji8).toNat from (by rw [List.length_take]; have h_ : ((ji8) : Int) ≤ (l0_2.length : Int) := (by first | exact of_decide_eq_true (by first | (with_reducible assumption) | assumption) | (rw [← hji8]; unfold mn; split <;> omega)); omega)]); rfl) | (simp only [hji2, hji8]; rfl) | rfl | (simp only [List.length_drop, List.length_take]; rfl)) ?_; (with_reducible refine (field_Product.calls kj86 (fun k_ => k_ < w.heap.size) _ _ (l0_0.take ((ji2) : Int).toNat) (fun k_ => k_ < w.heap.size) _ _ (l0_2.take ((ji8) : Int).toNat) t638 t641 _ ?side1 ?side2 A103.out).mono ?_); (case side1 => exact Kd.V_mk HC589.out (Kd.F_below (Kd.C_F (Kd.heap_int .u8) HR589.out) (by repeat (first | (with_reducible first | exact HB.out | apply below_alloc | apply pw_below_drewN | apply below_drew1 | refine below_set ?_ GE588.out) | exact HB.out)))); (case side2 => exact Kd.V_mk HC591.out (Kd.F_below (Kd.C_F (Kd.heap_int .u8) HR591.out) (by repeat (first | (with_reducible first | exact HB.out | apply below_alloc | apply pw_below_drewN | apply below_drew1 | refine below_set ?_ GE588.out) | exact HB.out)))); rintro e w116 ⟨v639, rfl, ho0, hb⟩; refine ⟨_, rfl, ?_⟩; have n0_ := Aside0.mk (Kd.R_lower (Kd.R_mono (ok' := fun k_ => True) ho0 (fun _ hk_ => trivial)) (below_size (by repeat (first | (with_reducible first | exact HB.out | apply below_alloc | apply pw_below_drewN | apply below_drew1 | refine below_set ?_ GE588.out) | exact HB.out)))); have n1_ := Aside0.mk (blk_below (g := gb588) (o := .cells #[.slice A0_0 l0_0.length c0_0, .slice A0_1 l0_1.length c0_1, .slice A0_2 l0_2.length c0_2, .int .u8 a0_3] 63 (0, 0)) (by (with_reducible repeat (first | refine blk_drewN ?_ _ | refine blk_drew ?_ | refine blk_alloc ?_ _)); exact BK588.out) hb); have n2_ := Aside0.mk (below_step (by repeat (first | (with_reducible first | exact HB.out | apply below_alloc | apply pw_below_drewN | apply below_drew1 | refine below_set ?_ GE588.out) | exact HB.out)) hb); clear BK588; clear HB; have HO640 := n0_; have BK588 := n1_; have HB := n2_; clear n0_ n1_ n2_; (try clear hb); (try clear hb2); (try clear hk); (try clear hi); (try clear ho0)) | ((with_reducible refine gate_callee (f := 50) rfl ?_); refine goesL_ (some 233) rfl rfl Try.func50 (by kernel_rfl) rfl #[.slice A0_1 (l0_1.take ((ji5) : Int).toNat).length c0_1, .slice A0_2 (l0_2.take ((ji8) : Int).toNat).length c0_2] rfl (by (try simp only [List.map_toArray, List.map_cons, List.map_nil]); first | done | (rw [show (l0_1.take ((ji5) : Int).toNat).length = (ji5).toNat from (by rw [List.length_take]; have h_ : ((ji5) : Int) ≤ (l0_1.length : Int) := (by first | exact of_decide_eq_true (by first | (with_reducible assumption) | assumption) | (rw [← hji5]; unfold mn; split <;> omega)); omega)] <;> rfl) | (rw [show (l0_2.take ((ji8) : Int).toNat).length = (ji8).toNat from (by rw [List.length_take]; have h_ : ((ji8) : Int) ≤ (l0_2.length : Int) := (by first | exact of_decide_eq_true (by first | (with_reducible assumption) | assumption) | (rw [← hji8]; unfold mn; split <;> omega)); omega)] <;> rfl) | ((try rw [show (l0_1.take ((ji5) : Int).toNat).length = (ji5).toNat from (by rw [List.length_take]; have h_ : ((ji5) : Int) ≤ (l0_1.length : Int) := (by first | exact of_decide_eq_true (by first | (with_reducible assumption) | assumption) | (rw [← hji5]; unfold mn; split <;> omega)); omega)]); (try rw [show (l0_2.take ((ji8) : Int).toNat).length = (ji8).toNat from (by rw [List.length_take]; have h_ : ((ji8) : Int) ≤ (l0_2.length : Int) := (by first | exact of_decide_eq_true (by first | (with_reducible assumption) | assumption) | (rw [← hji8]; unfold mn; split <;> omega)); omega)]); rfl) | (simp only [hji5, hji8]; rfl) | rfl | (simp only [List.length_drop, List.length_take]; rfl)) ?_; (with_reducible refine (field_Product.calls kj86 (fun k_ => k_ < w.heap.size) _ _ (l0_1.take ((ji5) : Int).toNat) (fun k_ => k_ < w.heap.size) _ _ (l0_2.take ((ji8) : Int).toNat) t642 t645 _ ?side1 ?side2 A104.out).mono ?_); (case side1 => exact Kd.V_mk HC590.out (Kd.F_below (Kd.C_F (Kd.heap_int .u8) HR590.out) (by repeat (first | (with_reducible first | exact HB.out | apply below_alloc | apply pw_below_drewN | apply below_drew1 | refine below_set ?_ GE588.out) | exact HB.out)))); (case side2 => exact Kd.V_mk HC591.out (Kd.F_below (Kd.C_F (Kd.heap_int .u8) HR591.out) (by repeat (first | (with_reducible first | exact HB.out | apply below_alloc | apply pw_below_drewN | apply below_drew1 | refine below_set ?_ GE588.out) | exact HB.out)))); rintro e w117 ⟨v643, rfl, ho0, hb⟩; refine ⟨_, rfl, ?_⟩; have n0_ := Aside0.mk (Kd.R_elder' (by (with_reducible repeat (first | apply Kd.R_alloc | apply Kd.R_drewN | apply Kd.R_drew)); exact HO640.out) (Kd.R_base ho0) hb); have n1_ := Aside0.mk (Kd.R_lower (Kd.R_new' (Kd.R_mono (ok' := fun k_ => True) ho0 (fun _ hk_ => trivial)) (Kd.R_lt (by (with_reducible repeat (first | apply Kd.R_alloc | apply Kd.R_drewN | apply Kd.R_drew)); exact HO640.out))) (below_size (by repeat (first | (with_reducible first | exact HB.out | apply below_alloc | apply pw_below_drewN | apply below_drew1 | refine below_set ?_ GE588.out) | exact HB.out)))); have n2_ := Aside0.mk (blk_below (g := gb588) (o := .cells #[.slice A0_0 l0_0.length c0_0, .slice A0_1 l0_1.length c0_1, .slice A0_2 l0_2.length c0_2, .int .u8 a0_3] 63 (0, 0)) (by (with_reducible repeat (first | refine blk_drewN ?_ _ | refine blk_drew ?_ | refine blk_alloc ?_ _)); exact BK588.out) hb); have n3_ := Aside0.mk (below_step (by repeat (first | (with_reducible first | exact HB.out | apply below_alloc | apply pw_below_drewN | apply below_drew1 | refine below_set ?_ GE588.out) | exact HB.out)) hb); clear HO640; clear BK588; clear HB; have HO640 := n0_; have HO644 := n1_; have BK588 := n2_; have HB := n3_; clear n0_ n1_ n2_ n3_; (try clear hb); (try clear hb2); (try clear hk); (try clear hi); (try clear ho0); obtain ⟨Ao118, co118, eo118⟩ := Kd.R_slice HO640.out; subst eo118; obtain ⟨Ao119, co119, eo119⟩ := Kd.R_slice HO644.out; subst eo119) | ((with_reducible refine gate_callee (f := 55) rfl ?_); refine goesL_ (some 239) rfl rfl Try.func55 (by kernel_rfl) rfl #[.slice Ao118 t638.length co118, .slice Ao119 t642.length co119] rfl (by (try simp only [List.map_toArray, List.map_cons, List.map_nil]); first | done | rfl | (simp only [List.length_drop, List.length_take]; rfl)) ?_; (with_reducible refine (field_Gcd.calls kj86 (fun k_ => some k_ = (.slice Ao118 t638.length co118 : Value).ownBlock) _ _ t638 (fun k_ => some k_ = (.slice Ao119 t642.length co119 : Value).ownBlock) _ _ t642 t646 t649 _ ?side1 ?side2 A105.out).mono ?_); (case side1 => exact Kd.R_V (Kd.R_tight rfl (Kd.R_types (HO640.out) BK588.out (by decide)))); (case side2 => exact Kd.R_V (Kd.R_tight rfl (Kd.R_types (HO644.out) BK588.out (by decide)))); rintro e w120 ⟨v647, rfl, ho0, hb⟩; refine ⟨_, rfl, ?_⟩; have n0_ := Aside0.mk (Kd.R_elder' (by (with_reducible repeat (first | apply Kd.R_alloc | apply Kd.R_drewN | apply Kd.R_drew)); exact HO640.out) (Kd.R_base ho0) hb); have n1_ := Aside0.mk (Kd.R_elder' (by (with_reducible repeat (first | apply Kd.R_alloc | apply Kd.R_drewN | apply Kd.R_drew)); exact HO644.out) (Kd.R_base ho0) hb); have n2_ := Aside0.mk (Kd.R_lower (Kd.R_new' (Kd.R_new' (Kd.R_mono (ok' := fun k_ => True) ho0 (fun _ hk_ => trivial)) (Kd.R_lt (by (with_reducible repeat (first | apply Kd.R_alloc | apply Kd.R_drewN | apply Kd.R_drew)); exact HO640.out))) (Kd.R_lt (by (with_reducible repeat (first | apply Kd.R_alloc | apply Kd.R_drewN | apply Kd.R_drew)); exact HO644.out))) (below_size (by repeat (first | (with_reducible first | exact HB.out | apply below_alloc | apply pw_below_drewN | apply below_drew1 | refine below_set ?_ GE588.out) | exact HB.out)))); have n3_ := Aside0.mk (blk_below (g := gb588) (o := .cells #[.slice A0_0 l0_0.length c0_0, .slice A0_1 l0_1.length c0_1, .slice A0_2 l0_2.length c0_2, .int .u8 a0_3] 63 (0, 0)) (by (with_reducible repeat (first | refine blk_drewN ?_ _ | refine blk_drew ?_ | refine blk_alloc ?_ _)); exact BK588.out) hb); have n4_ := Aside0.mk (below_step (by repeat (first | (with_reducible first | exact HB.out | apply below_alloc | apply pw_below_drewN | apply below_drew1 | refine below_set ?_ GE588.out) | exact HB.out)) hb); clear HO640; clear HO644; clear BK588; clear HB; have HO640 := n0_; have HO644 := n1_; have HO648 := n2_; have BK588 := n3_; have HB := n4_; clear n0_ n1_ n2_ n3_ n4_; (try clear hb); (try clear hb2); (try clear hk); (try clear hi); (try clear ho0); obtain ⟨Ao121, co121, eo121⟩ := Kd.R_slice HO648.out; subst eo121) | (go_at_call 56; (with_reducible refine (foghornlaw18_divides.calls kj86 _ _ t646 _ _ t638 true _ ?side1 ?side2 ?side3 ?side4 A109.out).mono ?_); (case side1 => repeat (first | exact (Kd.R_reads' HO648.out).2.2 | (with_reducible refine Kd.C_alloc ?_ _) | (with_reducible refine Kd.C_drewN ?_ _) | (with_reducible refine Kd.C_drew ?_))); (case side2 => exact (Kd.R_reads' HO648.out).2.1); (case side3 => repeat (first | exact (Kd.R_reads' HO640.out).2.2 | (with_reducible refine Kd.C_alloc ?_ _) | (with_reducible refine Kd.C_drewN ?_ _) | (with_reducible refine Kd.C_drew ?_))); (case side4 => exact (Kd.R_reads' HO640.out).2.1); rintro e w122 ⟨rfl, hb⟩; have n0_ := Aside0.mk (Kd.R_below (by (with_reducible repeat (first | apply Kd.R_alloc | apply Kd.R_drewN | apply Kd.R_drew)); exact HO640.out) hb); have n1_ := Aside0.mk (Kd.R_below (by (with_reducible repeat (first | apply Kd.R_alloc | apply Kd.R_drewN | apply Kd.R_drew)); exact HO644.out) hb); have n2_ := Aside0.mk (Kd.R_below (by (with_reducible repeat (first | apply Kd.R_alloc | apply Kd.R_drewN | apply Kd.R_drew)); exact HO648.out) hb); have n3_ := Aside0.mk (blk_below (g := gb588) (o := .cells #[.slice A0_0 l0_0.length c0_0, .slice A0_1 l0_1.length c0_1, .slice A0_2 l0_2.length c0_2, .int .u8 a0_3] 63 (0, 0)) (by (with_reducible repeat (first | refine blk_drewN ?_ _ | refine blk_drew ?_ | refine blk_alloc ?_ _)); exact BK588.out) hb); have n4_ := Aside0.mk (below_step (by repeat (first | (with_reducible first | exact HB.out | apply below_alloc | apply pw_below_drewN | apply below_drew1 | refine below_set ?_ GE588.out) | exact HB.out)) hb); clear HO640; clear HO644; clear HO648; clear BK588; clear HB; have HO640 := n0_; have HO644 := n1_; have HO648 := n2_; have BK588 := n3_; have HB := n4_; clear n0_ n1_ n2_ n3_ n4_; (try clear hb); (try clear hb2); (try clear hk); (try clear hi)) | (go_at_call 56; (with_reducible refine (foghornlaw18_divides.calls kj86 _ _ t646 _ _ t642 true _ ?side1 ?side2 ?side3 ?side4 A111.out).mono ?_); (case side1 => repeat (first | exact (Kd.R_reads' HO648.out).2.2 | (with_reducible refine Kd.C_alloc ?_ _) | (with_reducible refine Kd.C_drewN ?_ _) | (with_reducible refine Kd.C_drew ?_))); (case side2 => exact (Kd.R_reads' HO648.out).2.1); (case side3 => repeat (first | exact (Kd.R_reads' HO644.out).2.2 | (with_reducible refine Kd.C_alloc ?_ _) | (with_reducible refine Kd.C_drewN ?_ _) | (with_reducible refine Kd.C_drew ?_))); (case side4 => exact (Kd.R_reads' HO644.out).2.1); rintro e w123 ⟨rfl, hb⟩; have n0_ := Aside0.mk (Kd.R_below (by (with_reducible repeat (first | apply Kd.R_alloc | apply Kd.R_drewN | apply Kd.R_drew)); exact HO640.out) hb); have n1_ := Aside0.mk (Kd.R_below (by (with_reducible repeat (first | apply Kd.R_alloc | apply Kd.R_drewN | apply Kd.R_drew)); exact HO644.out) hb); have n2_ := Aside0.mk (Kd.R_below (by (with_reducible repeat (first | apply Kd.R_alloc | apply Kd.R_drewN | apply Kd.R_drew)); exact HO648.out) hb); have n3_ := Aside0.mk (blk_below (g := gb588) (o := .cells #[.slice A0_0 l0_0.length c0_0, .slice A0_1 l0_1.length c0_1, .slice A0_2 l0_2.length c0_2, .int .u8 a0_3] 63 (0, 0)) (by (with_reducible repeat (first | refine blk_drewN ?_ _ | refine blk_drew ?_ | refine blk_alloc ?_ _)); exact BK588.out) hb); have n4_ := Aside0.mk (below_step (by repeat (first | (with_reducible first | exact HB.out | apply below_alloc | apply pw_below_drewN | apply below_drew1 | refine below_set ?_ GE588.out) | exact HB.out)) hb); clear HO640; clear HO644; clear HO648; clear BK588; clear HB; have HO640 := n0_; have HO644 := n1_; have HO648 := n2_; have BK588 := n3_; have HB := n4_; clear n0_ n1_ n2_ n3_ n4_; (try clear hb); (try clear hb2); (try clear hk); (try clear hi)) | (go_at_call 56; (try (conv => enter [3]; rw [show (ji8).toNat = (l0_2.take ((ji8) : Int).toNat).length from (show (l0_2.take ((ji8) : Int).toNat).length = (ji8).toNat from (by rw [List.length_take]; have h_ : ((ji8) : Int) ≤ (l0_2.length : Int) := (by first | exact of_decide_eq_true (by first | (with_reducible assumption) | assumption) | (rw [← hji8]; unfold mn; split <;> omega)); omega)).symm])); (with_reducible refine (foghornlaw18_divides.calls kj86 _ _ (l0_2.take ((ji8) : Int).toNat) _ _ t646 true _ ?side1 ?side2 ?side3 ?side4 A113.out).mono ?_); (case side1 => repeat (first | exact (Kd.C_below HR591.out HB.out) | (with_reducible refine Kd.C_alloc ?_ _) | (with_reducible refine Kd.C_drewN ?_ _) | (with_reducible refine Kd.C_drew ?_))); (case side2 => exact HC591.out); (case side3 => repeat (first | exact (Kd.R_reads' HO648.out).2.2 | (with_reducible refine Kd.C_alloc ?_ _) | (with_reducible refine Kd.C_drewN ?_ _) | (with_reducible refine Kd.C_drew ?_))); (case side4 => exact (Kd.R_reads' HO648.out).2.1); rintro e w124 ⟨rfl, hb⟩; have n0_ := Aside0.mk (Kd.R_below (by (with_reducible repeat (first | apply Kd.R_alloc | apply Kd.R_drewN | apply Kd.R_drew)); exact HO640.out) hb); have n1_ := Aside0.mk (Kd.R_below (by (with_reducible repeat (first | apply Kd.R_alloc | apply Kd.R_drewN | apply Kd.R_drew)); exact HO644.out) hb); have n2_ := Aside0.mk (Kd.R_below (by (with_reducible repeat (first | apply Kd.R_alloc | apply Kd.R_drewN | apply Kd.R_drew)); exact HO648.out) hb); have n3_ := Aside0.mk (blk_below (g := gb588) (o := .cells #[.slice A0_0 l0_0.length c0_0, .slice A0_1 l0_1.length c0_1, .slice A0_2 l0_2.length c0_2, .int .u8 a0_3] 63 (0, 0)) (by (with_reducible repeat (first | refine blk_drewN ?_ _ | refine blk_drew ?_ | refine blk_alloc ?_ _)); exact BK588.out) hb); have n4_ := Aside0.mk (below_step (by repeat (first | (with_reducible first | exact HB.out | apply below_alloc | apply pw_below_drewN | apply below_drew1 | refine below_set ?_ GE588.out) | exact HB.out)) hb); clear HO640; clear HO644; clear HO648; clear BK588; clear HB; have HO640 := n0_; have HO644 := n1_; have HO648 := n2_; have BK588 := n3_; have HB := n4_; clear n0_ n1_ n2_ n3_ n4_; (try clear hb); (try clear hb2); (try clear hk); (try clear hi)) | (go_at_call 32; (with_reducible refine (foghornlaw18_awake.calls kj86  t653 _ A115.out).mono ?_); rintro e w125 ⟨rfl, hb⟩; have n0_ := Aside0.mk (Kd.R_below (by (with_reducible repeat (first | apply Kd.R_alloc | apply Kd.R_drewN | apply Kd.R_drew)); exact HO640.out) hb); have n1_ := Aside0.mk (Kd.R_below (by (with_reducible repeat (first | apply Kd.R_alloc | apply Kd.R_drewN | apply Kd.R_drew)); exact HO644.out) hb); have n2_ := Aside0.mk (Kd.R_below (by (with_reducible repeat (first | apply Kd.R_alloc | apply Kd.R_drewN | apply Kd.R_drew)); exact HO648.out) hb); have n3_ := Aside0.mk (blk_below (g := gb588) (o := .cells #[.slice A0_0 l0_0.length c0_0, .slice A0_1 l0_1.length c0_1, .slice A0_2 l0_2.length c0_2, .int .u8 a0_3] 63 (0, 0)) (by (with_reducible repeat (first | refine blk_drewN ?_ _ | refine blk_drew ?_ | refine blk_alloc ?_ _)); exact BK588.out) hb); have n4_ := Aside0.mk (below_step (by repeat (first | (with_reducible first | exact HB.out | apply below_alloc | apply pw_below_drewN | apply below_drew1 | refine below_set ?_ GE588.out) | exact HB.out)) hb); clear HO640; clear HO644; clear HO648; clear BK588; clear HB; have HO640 := n0_; have HO644 := n1_; have HO648 := n2_; have BK588 := n3_; have HB := n4_; clear n0_ n1_ n2_ n3_ n4_; (try clear hb); (try clear hb2); (try clear hk); (try clear hi)))
                                                go_ret
                                                exact ⟨by first | rfl | (simp [errW_none, errW_some] <;> rfl) | (simp only [← hji2, ← hji5, ← hji8]; first | rfl | (simp [errW_none, errW_some] <;> rfl)) | (simp [*, errW_none, errW_some] <;> rfl), by repeat (first | (with_reducible first | exact HB.out | apply below_alloc | apply pw_below_drewN | apply below_drew1 | refine below_set ?_ GE588.out) | exact HB.out)⟩
                                            · replace c114 := Bool.eq_false_iff.mpr c114
                                              subst c114
                                              have H1 : (some false) = some r := by rw [if_neg (show ¬ (false = true) by decide)] at H; exact H
                                              clear H
                                              have H := H1
                                              clear H1
                                              as_aux_lemma =>
                                                exact absurd ((Option.some.inj H).trans HQ_.out) (by decide)
                                          · replace c112 := Bool.eq_false_iff.mpr c112
                                            subst c112
                                            have H1 : (some false) = some r := by rw [if_neg (show ¬ (false = true) by decide)] at H; exact H
                                            clear H
                                            have H := H1
                                            clear H1
                                            as_aux_lemma =>
                                              exact absurd ((Option.some.inj H).trans HQ_.out) (by decide)
                                        · replace c110 := Bool.eq_false_iff.mpr c110
                                          subst c110
                                          have H1 : (some false) = some r := by rw [if_neg (show ¬ (false = true) by decide)] at H; exact H
                                          clear H
                                          have H := H1
                                          clear H1
                                          as_aux_lemma =>
                                            exact absurd ((Option.some.inj H).trans HQ_.out) (by decide)
                                      · rw [if_neg c108] at H
                                        have c108b0 : (t649 == 0) = false := beq_eq_false_iff_ne.mpr c108
                                        have c108b1 : (t649 != 0) = true := bne_iff_ne.mpr c108
                                        as_aux_lemma =>
                                          exact absurd ((Option.some.inj H).trans HQ_.out) (by decide)
                                    · rw [if_neg c107] at H
                                      have c107b0 : (t645 == 0) = false := beq_eq_false_iff_ne.mpr c107
                                      have c107b1 : (t645 != 0) = true := bne_iff_ne.mpr c107
                                      as_aux_lemma =>
                                        exact absurd ((Option.some.inj H).trans HQ_.out) (by decide)
                                  · rw [if_neg c106] at H
                                    have c106b0 : (t641 == 0) = false := beq_eq_false_iff_ne.mpr c106
                                    have c106b1 : (t641 != 0) = true := bne_iff_ne.mpr c106
                                    as_aux_lemma =>
                                      exact absurd ((Option.some.inj H).trans HQ_.out) (by decide)
            · rw [if_neg c10] at H
              exact absurd H (by simp)
          · rw [if_neg c9] at H
            exact absurd H (by simp)
        · rw [if_neg c7] at H
          exact absurd H (by simp)
      · rw [if_neg c6] at H
        exact absurd H (by simp)
    · rw [if_neg c4] at H
      exact absurd H (by simp)
  · rw [if_neg c3] at H
    exact absurd H (by simp)

theorem foghornlaw18_FieldRings.walk (P : foghornlaw18_FieldRings.Pure) (A0_0 : Option Addr) (c0_0 : Nat) (l0_0 : List Int) (A0_1 : Option Addr) (c0_1 : Nat) (l0_1 : List Int) (A0_2 : Option Addr) (c0_2 : Nat) (l0_2 : List Int) (a0_3 : Int) (w : World) (hr0_0 : Kd.C (Kd.int .u8) w A0_0 l0_0.length l0_0) (hc0_0 : l0_0.length ≤ c0_0) (hr0_1 : Kd.C (Kd.int .u8) w A0_1 l0_1.length l0_1) (hc0_1 : l0_1.length ≤ c0_1) (hr0_2 : Kd.C (Kd.int .u8) w A0_2 l0_2.length l0_2) (hc0_2 : l0_2.length ≤ c0_2) (hw0_0 : l0_0.length ≤ maxLen ∧ ∀ x ∈ l0_0, (fun y_ : Int => (Lit.int .u8 y_).wf = true) x) (hw0_1 : l0_1.length ≤ maxLen ∧ ∀ x ∈ l0_1, (fun y_ : Int => (Lit.int .u8 y_).wf = true) x) (hw0_2 : l0_2.length ≤ maxLen ∧ ∀ x ∈ l0_2, (fun y_ : Int => (Lit.int .u8 y_).wf = true) x) (hw0_3 : (Lit.int .u8 a0_3).wf = true) :
    Calls Try.prog 11 #[.agg #[.slice A0_0 l0_0.length c0_0, .slice A0_1 l0_1.length c0_1, .slice A0_2 l0_2.length c0_2, .int .u8 a0_3]] w fun e w' => e = .returned (.bool true) ∧ Below w.heap.size w w' := by
  obtain ⟨k, h⟩ := P l0_0 l0_1 l0_2 a0_3 hw0_0 hw0_1 hw0_2 hw0_3
  refine (foghornlaw18_FieldRings.calls k _ _ l0_0 _ _ l0_1 _ _ l0_2 a0_3 true w hr0_0 hc0_0 hr0_1 hc0_1 hr0_2 hc0_2 h rfl).mono ?_
  rintro e w' ⟨rfl, hd⟩
  exact ⟨rfl, hd⟩

end Go.Proofs.Ytmdeldiocaofkaa.Q
