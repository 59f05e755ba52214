-- Printed by myprint.py (ours) over the kit's printer, out of the translation.
import Derived.Test.YtmdeldiocaofkaaQ0
import Derived.Test.YtmdeldiocaofkaaQF1
namespace Go.Proofs.Ytmdeldiocaofkaa.Q
open Go.RowKit Go.Proofs.YtmdeldiocaofkaaW.PrintWords Go.Proofs.YtmdeldiocaofkaaW.PrintLast Go.Proofs.YtmdeldiocaofkaaW.PrintMore
attribute [local go_sem] ArrW.ptrOf_slice max2_int min2_int max_two min_two max_three min_three max_four min_four   -- for this text's walks alone
set_option linter.unusedVariables false
set_option linter.unusedSimpArgs false

/-! ### field_At: function 51 -/
def field_At.f (l0 : List Int) (a1 : Int) : Option (Int × Int) := (field_long.f (([l0] : List (List Int)))).bind fun t518 => (if t518 = true then (some (0, 1)) else ((field_at.f l0 a1).bind fun t519 => (some (t519, 0))))

/-! ### foghornlaw18_degree: function 52 -/
def foghornlaw18_degree.f (l0 : List Int) : Option (Int) := some (wrap64 ((l0.length : Int) - 1))

/-! ### field_divide: function 79 -/
mutual
def field_divide.l0 : Nat → List Int → List Int → List Int → Int → Int → Option (List Int × List Int)
  | 0, _, _, _, _, _ => none
  | k + 1, x1, x4, x5, x6, x7 => if x7 ≥ 0 then (if 0 ≤ (wrap64 ((wrap64 (x7 + (x1.length : Int))) - 1)) then (if (wrap64 ((wrap64 (x7 + (x1.length : Int))) - 1)) < (x5.length : Int) then ((field_Times.f k (rd x5 (wrap64 ((wrap64 (x7 + (x1.length : Int))) - 1))) x6).bind fun t532 => (if 0 ≤ x7 then (if x7 < (x4.length : Int) then (field_divide.l1 k x1 (x4.set (x7 : Int).toNat t532) x5 x6 x7 t532 x1 (x1.length : Int) 0) else (none)) else (none))) else (none)) else (none)) else ((field_poly.f k x5).bind fun t528 => (some (x4, t528)))
def field_divide.l1 : Nat → List Int → List Int → List Int → Int → Int → Int → List Int → Int → Int → Option (List Int × List Int)
  | 0, _, _, _, _, _, _, _, _, _ => none
  | k + 1, x1, x4, x5, x6, x7, x8, x49, x50, x51 => if x51 < x50 then (if 0 ≤ x51 then (if x51 < (x49.length : Int) then (if 0 ≤ (wrap64 (x7 + x51)) then (if (wrap64 (x7 + x51)) < (x5.length : Int) then ((field_Times.f k x8 (rd x49 x51)).bind fun t536 => (field_divide.l1 k x1 x4 (x5.set ((wrap64 (x7 + x51)) : Int).toNat (Go.bits .xor .u8 (rd x5 (wrap64 (x7 + x51))) t536)) x6 x7 x8 x49 x50 (wrap64 (x51 + 1)))) else (none)) else (none)) else (none)) else (none)) else (field_divide.l0 k x1 x4 x5 x6 (wrap64 (x7 - 1)))
end
def field_divide.f (k : Nat) (l0 : List Int) (l1 : List Int) : Option (List Int × List Int) := (field_poly.f k l0).bind fun t520 => (if 0 ≤ (wrap64 ((l1.length : Int) - 1)) then (if (wrap64 ((l1.length : Int) - 1)) < (l1.length : Int) then ((field_raised.f k (rd l1 (wrap64 ((l1.length : Int) - 1))) 254).bind fun t524 => (if 0 ≤ (mx 0 (wrap64 ((wrap64 ((t520.length : Int) - (l1.length : Int))) + 1))) then (if (mx 0 (wrap64 ((wrap64 ((t520.length : Int) - (l1.length : Int))) + 1)) : Int).toNat ≤ 281474976710656 then ((some (List.replicate (mx 0 (wrap64 ((wrap64 ((t520.length : Int) - (l1.length : Int))) + 1)) : Int).toNat 0 : List Int)).bind fun y525 => (field_divide.l0 k l1 y525 t520 t524 (wrap64 ((y525.length : Int) - 1)))) else (none)) else (none))) else (none)) else (none))
theorem field_divide.mono_l : ∀ k, (∀ y0 y1 y2 y3 y4, LeO (field_divide.l0 k y0 y1 y2 y3 y4) (field_divide.l0 (k + 1) y0 y1 y2 y3 y4)) ∧ (∀ y0 y1 y2 y3 y4 y5 y6 y7 y8, LeO (field_divide.l1 k y0 y1 y2 y3 y4 y5 y6 y7 y8) (field_divide.l1 (k + 1) y0 y1 y2 y3 y4 y5 y6 y7 y8))
  | 0 => ⟨fun _ _ _ _ _ r h => by simp [field_divide.l0] at h, fun _ _ _ _ _ _ _ _ _ r h => by simp [field_divide.l1] at h⟩
  | k + 1 => by
    obtain ⟨ih0, ih1⟩ := field_divide.mono_l k
    refine ⟨?_, ?_⟩
    · intro y0 y1 y2 y3 y4
      unfold field_divide.l0
      repeat' first
      | (with_reducible exact ih0 _ _ _ _ _)
      | (with_reducible exact ih1 _ _ _ _ _ _ _ _ _)
      | (with_reducible exact field_Times.mono _ _ _)
      | (with_reducible exact field_poly.mono _ _)
      | (with_reducible exact field_raised.mono _ _ _)
      | (with_reducible exact LeO.refl _)
      | (with_reducible exact LeO.none _)
      | (with_reducible refine LeO.ite ?_ ?_)
      | (with_reducible refine LeO.bind ?_ (fun _ => ?_))
      | exact ih0 _ _ _ _ _
      | exact ih1 _ _ _ _ _ _ _ _ _
      | exact field_Times.mono _ _ _
      | exact field_poly.mono _ _
      | exact field_raised.mono _ _ _
      | exact LeO.none _
      | refine LeO.ite ?_ ?_
      | refine LeO.bind ?_ (fun _ => ?_)
    · intro y0 y1 y2 y3 y4 y5 y6 y7 y8
      unfold field_divide.l1
      repeat' first
      | (with_reducible exact ih0 _ _ _ _ _)
      | (with_reducible exact ih1 _ _ _ _ _ _ _ _ _)
      | (with_reducible exact field_Times.mono _ _ _)
      | (with_reducible exact field_poly.mono _ _)
      | (with_reducible exact field_raised.mono _ _ _)
      | (with_reducible exact LeO.refl _)
      | (with_reducible exact LeO.none _)
      | (with_reducible refine LeO.ite ?_ ?_)
      | (with_reducible refine LeO.bind ?_ (fun _ => ?_))
      | exact ih0 _ _ _ _ _
      | exact ih1 _ _ _ _ _ _ _ _ _
      | exact field_Times.mono _ _ _
      | exact field_poly.mono _ _
      | exact field_raised.mono _ _ _
      | exact LeO.none _
      | refine LeO.ite ?_ ?_
      | refine LeO.bind ?_ (fun _ => ?_)
theorem field_divide.mono : ∀ a0 a1 k, LeO (field_divide.f k a0 a1) (field_divide.f (k + 1) a0 a1) := by
  intro a0 a1 k
  obtain ⟨ih0, ih1⟩ := field_divide.mono_l k
  unfold field_divide.f
  repeat' first
      | (with_reducible exact ih0 _ _ _ _ _)
      | (with_reducible exact ih1 _ _ _ _ _ _ _ _ _)
      | (with_reducible exact field_Times.mono _ _ _)
      | (with_reducible exact field_poly.mono _ _)
      | (with_reducible exact field_raised.mono _ _ _)
      | (with_reducible exact LeO.refl _)
      | (with_reducible exact LeO.none _)
      | (with_reducible refine LeO.ite ?_ ?_)
      | (with_reducible refine LeO.bind ?_ (fun _ => ?_))
      | exact ih0 _ _ _ _ _
      | exact ih1 _ _ _ _ _ _ _ _ _
      | exact field_Times.mono _ _ _
      | exact field_poly.mono _ _
      | exact field_raised.mono _ _ _
      | exact LeO.none _
      | refine LeO.ite ?_ ?_
      | refine LeO.bind ?_ (fun _ => ?_)
def field_divide.T12 : Bool × List (List Nat × List Nat) := (true, [([], []), ([], []), ([], []), ([1, 2], [1, 2]), ([0, 3], [0, 3]), ([4], [4]), ([], []), ([], []), ([6, 7], [6, 7]), ([5, 8], [5, 8]), ([0, 3, 0, 1, 2, 3, 4, 5, 6, 7, 8, 9], [0, 3]), ([10, 9, 8, 0, 1, 2, 3, 4, 5, 6, 7, 8, 9], [9, 10])])
def field_divide.B12 : List Nat := [0, 0, 0, 6, 15, 31, 0, 0, 192, 511, 1023, 2047]
theorem field_divide.tab12 : rtab .any (opsOf Try.f79 12) = field_divide.T12 := by kernel_rfl
theorem field_divide.bits12 : waitsOk field_divide.T12.2 field_divide.B12 = true := by kernel_rfl

/-! ### field_Divide: function 53 -/
def field_Divide.f (k : Nat) (l0 : List Int) (l1 : List Int) : Option (List Int × List Int × Int) := (field_long.f (([l0, l1] : List (List Int)))).bind fun t541 => (if t541 = true then (some (([] : List Int), ([] : List Int), 1)) else ((field_poly.f k l1).bind fun t542 => (if (t542.length : Int) = 0 then (some (([] : List Int), ([] : List Int), 6)) else ((field_divide.f k l0 t542).bind fun bt545 => (some (bt545.1, bt545.2, 0))))))
theorem field_Divide.mono : ∀ a0 a1 k, LeO (field_Divide.f k a0 a1) (field_Divide.f (k + 1) a0 a1) := by
  intro a0 a1 k
  unfold field_Divide.f
  repeat' first
      | (with_reducible exact field_divide.mono _ _ _)
      | (with_reducible exact field_poly.mono _ _)
      | (with_reducible exact LeO.refl _)
      | (with_reducible exact LeO.none _)
      | (with_reducible refine LeO.ite ?_ ?_)
      | (with_reducible refine LeO.bind ?_ (fun _ => ?_))
      | exact field_divide.mono _ _ _
      | exact field_poly.mono _ _
      | exact LeO.none _
      | refine LeO.ite ?_ ?_
      | refine LeO.bind ?_ (fun _ => ?_)

/-! ### foghornlaw18_same: function 54 -/
def foghornlaw18_same.l0 : Nat → List Int → List Int → Int → Option (Bool)
  | 0, _, _, _ => none
  | k + 1, x0, x1, x5 => if x5 < (x0.length : Int) then (if 0 ≤ x5 then (if x5 < (x1.length : Int) then (if (rd x0 x5) = (rd x1 x5) then (foghornlaw18_same.l0 k x0 x1 (wrap64 (x5 + 1))) else (some false)) else (none)) else (none)) else (some true)
def foghornlaw18_same.f (k : Nat) (l0 : List Int) (l1 : List Int) : Option (Bool) := if (l0.length : Int) = (l1.length : Int) then (foghornlaw18_same.l0 k l0 l1 0) else (some false)
theorem foghornlaw18_same.mono_l : ∀ k, (∀ y0 y1 y2, LeO (foghornlaw18_same.l0 k y0 y1 y2) (foghornlaw18_same.l0 (k + 1) y0 y1 y2))
  | 0 => fun _ _ _ r h => by simp [foghornlaw18_same.l0] at h
  | k + 1 => by
    have ih0 := foghornlaw18_same.mono_l k
    · intro y0 y1 y2
      unfold foghornlaw18_same.l0
      repeat' first
      | (with_reducible exact ih0 _ _ _)
      | (with_reducible exact LeO.refl _)
      | (with_reducible exact LeO.none _)
      | (with_reducible refine LeO.ite ?_ ?_)
      | (with_reducible refine LeO.bind ?_ (fun _ => ?_))
      | exact ih0 _ _ _
      | exact LeO.none _
      | refine LeO.ite ?_ ?_
      | refine LeO.bind ?_ (fun _ => ?_)
theorem foghornlaw18_same.mono : ∀ a0 a1 k, LeO (foghornlaw18_same.f k a0 a1) (foghornlaw18_same.f (k + 1) a0 a1) := by
  intro a0 a1 k
  have ih0 := foghornlaw18_same.mono_l k
  unfold foghornlaw18_same.f
  repeat' first
      | (with_reducible exact ih0 _ _ _)
      | (with_reducible exact LeO.refl _)
      | (with_reducible exact LeO.none _)
      | (with_reducible refine LeO.ite ?_ ?_)
      | (with_reducible refine LeO.bind ?_ (fun _ => ?_))
      | exact ih0 _ _ _
      | exact LeO.none _
      | refine LeO.ite ?_ ?_
      | refine LeO.bind ?_ (fun _ => ?_)

/-! ### field_Gcd: function 55 -/
def field_Gcd.l0 : Nat → List Int → List Int → Option (List Int × Int)
  | 0, _, _ => none
  | k + 1, x0, x1 => if (x1.length : Int) > 0 then ((field_divide.f k x0 x1).bind fun bt563 => (field_Gcd.l0 k x1 bt563.2)) else (if (x0.length : Int) = 0 then (some (([] : List Int), 0)) else (if 0 ≤ (wrap64 ((x0.length : Int) - 1)) then (if (wrap64 ((x0.length : Int) - 1)) < (x0.length : Int) then ((field_raised.f k (rd x0 (wrap64 ((x0.length : Int) - 1))) 254).bind fun t570 => ((field_product.f k x0 (([t570] : List Int))).bind fun t574 => (some (t574, 0)))) else (none)) else (none)))
def field_Gcd.f (k : Nat) (l0 : List Int) (l1 : List Int) : Option (List Int × Int) := (field_long.f (([l0, l1] : List (List Int)))).bind fun t556 => (if t556 = true then (some (([] : List Int), 1)) else ((field_poly.f k l0).bind fun t557 => ((field_poly.f k l1).bind fun t560 => (field_Gcd.l0 k t557 t560))))
theorem field_Gcd.mono_l : ∀ k, (∀ y0 y1, LeO (field_Gcd.l0 k y0 y1) (field_Gcd.l0 (k + 1) y0 y1))
  | 0 => fun _ _ r h => by simp [field_Gcd.l0] at h
  | k + 1 => by
    have ih0 := field_Gcd.mono_l k
    · intro y0 y1
      unfold field_Gcd.l0
      repeat' first
      | (with_reducible exact ih0 _ _)
      | (with_reducible exact field_divide.mono _ _ _)
      | (with_reducible exact field_poly.mono _ _)
      | (with_reducible exact field_product.mono _ _ _)
      | (with_reducible exact field_raised.mono _ _ _)
      | (with_reducible exact LeO.refl _)
      | (with_reducible exact LeO.none _)
      | (with_reducible refine LeO.ite ?_ ?_)
      | (with_reducible refine LeO.bind ?_ (fun _ => ?_))
      | exact ih0 _ _
      | exact field_divide.mono _ _ _
      | exact field_poly.mono _ _
      | exact field_product.mono _ _ _
      | exact field_raised.mono _ _ _
      | exact LeO.none _
      | refine LeO.ite ?_ ?_
      | refine LeO.bind ?_ (fun _ => ?_)
theorem field_Gcd.mono : ∀ a0 a1 k, LeO (field_Gcd.f k a0 a1) (field_Gcd.f (k + 1) a0 a1) := by
  intro a0 a1 k
  have ih0 := field_Gcd.mono_l k
  unfold field_Gcd.f
  repeat' first
      | (with_reducible exact ih0 _ _)
      | (with_reducible exact field_divide.mono _ _ _)
      | (with_reducible exact field_poly.mono _ _)
      | (with_reducible exact field_product.mono _ _ _)
      | (with_reducible exact field_raised.mono _ _ _)
      | (with_reducible exact LeO.refl _)
      | (with_reducible exact LeO.none _)
      | (with_reducible refine LeO.ite ?_ ?_)
      | (with_reducible refine LeO.bind ?_ (fun _ => ?_))
      | exact ih0 _ _
      | exact field_divide.mono _ _ _
      | exact field_poly.mono _ _
      | exact field_product.mono _ _ _
      | exact field_raised.mono _ _ _
      | exact LeO.none _
      | refine LeO.ite ?_ ?_
      | refine LeO.bind ?_ (fun _ => ?_)

/-! ### foghornlaw18_divides: function 56 -/
def foghornlaw18_divides.f (k : Nat) (l0 : List Int) (l1 : List Int) : Option (Bool) := (field_Divide.f k l1 l0).bind fun bt577 => (if bt577.2.2 = 6 then ((field_Sum.f k l1 ([] : List Int)).bind fun bt584 => (if bt584.2 = 0 then (some ((bt584.1.length : Int) == 0)) else (some false))) else (if bt577.2.2 = 0 then (some ((bt577.2.1.length : Int) == 0)) else (some false)))
theorem foghornlaw18_divides.mono : ∀ a0 a1 k, LeO (foghornlaw18_divides.f k a0 a1) (foghornlaw18_divides.f (k + 1) a0 a1) := by
  intro a0 a1 k
  unfold foghornlaw18_divides.f
  repeat' first
      | (with_reducible exact field_Divide.mono _ _ _)
      | (with_reducible exact field_Sum.mono _ _ _)
      | (with_reducible exact LeO.refl _)
      | (with_reducible exact LeO.none _)
      | (with_reducible refine LeO.ite ?_ ?_)
      | (with_reducible refine LeO.bind ?_ (fun _ => ?_))
      | exact field_Divide.mono _ _ _
      | exact field_Sum.mono _ _ _
      | exact LeO.none _
      | refine LeO.ite ?_ ?_
      | refine LeO.bind ?_ (fun _ => ?_)

/-! ### foghornlaw18_FieldRings: function 11 -/
mutual
def foghornlaw18_FieldRings.j0 : Nat → Int → List Int → List Int → List Int → List Int → List Int → List Int → List Int → Bool → Option (Bool)
  | 0, _, _, _, _, _, _, _, _, _ => none
  | k + 1, x3, x4, x5, x6, x7, x9, x11, x13, x94 => if x94 = true then (some false) else ((field_At.f x4 x3).bind fun bt608 => ((field_At.f x5 x3).bind fun bt610 => ((field_At.f x7 x3).bind fun bt612 => ((field_At.f x9 x3).bind fun bt614 => (if bt612.2 = 0 then (if bt614.2 = 0 then ((field_Plus.f bt608.1 bt610.1).bind fun t616 => (if bt612.1 = t616 then ((field_Times.f k bt608.1 bt610.1).bind fun t617 => (if bt614.1 = t617 then (if (x11.length : Int) > 0 then (if (x13.length : Int) > 0 then ((foghornlaw18_degree.f x9).bind fun t618 => ((foghornlaw18_degree.f x11).bind fun t619 => ((foghornlaw18_degree.f x13).bind fun t620 => (if t618 = (wrap64 (t619 + t620)) then (if (x11.length : Int) = 0 then (foghornlaw18_FieldRings.j1 k x4 x5 x6 x11 x13 ((x9.length : Int) != 0)) else (if (x13.length : Int) = 0 then (foghornlaw18_FieldRings.j1 k x4 x5 x6 x11 x13 ((x9.length : Int) != 0)) else (foghornlaw18_FieldRings.j1 k x4 x5 x6 x11 x13 false))) else (foghornlaw18_FieldRings.j1 k x4 x5 x6 x11 x13 true))))) else (if (x11.length : Int) = 0 then (foghornlaw18_FieldRings.j1 k x4 x5 x6 x11 x13 ((x9.length : Int) != 0)) else (if (x13.length : Int) = 0 then (foghornlaw18_FieldRings.j1 k x4 x5 x6 x11 x13 ((x9.length : Int) != 0)) else (foghornlaw18_FieldRings.j1 k x4 x5 x6 x11 x13 false)))) else (if (x11.length : Int) = 0 then (foghornlaw18_FieldRings.j1 k x4 x5 x6 x11 x13 ((x9.length : Int) != 0)) else (if (x13.length : Int) = 0 then (foghornlaw18_FieldRings.j1 k x4 x5 x6 x11 x13 ((x9.length : Int) != 0)) else (foghornlaw18_FieldRings.j1 k x4 x5 x6 x11 x13 false)))) else (foghornlaw18_FieldRings.j1 k x4 x5 x6 x11 x13 true))) else (foghornlaw18_FieldRings.j1 k x4 x5 x6 x11 x13 true))) else (foghornlaw18_FieldRings.j1 k x4 x5 x6 x11 x13 true)) else (foghornlaw18_FieldRings.j1 k x4 x5 x6 x11 x13 true))))))
def foghornlaw18_FieldRings.j1 : Nat → List Int → List Int → List Int → List Int → List Int → Bool → Option (Bool)
  | 0, _, _, _, _, _, _ => none
  | k + 1, x4, x5, x6, x11, x13, x173 => if x173 = true then (some false) else ((field_Divide.f k x4 x5).bind fun bt621 => (if (x13.length : Int) = 0 then (if bt621.2.2 = 6 then ((foghornlaw18_awake.f k).bind fun t628 => (some t628)) else (some false)) else ((field_Product.f k bt621.1 x5).bind fun bt629 => ((field_Sum.f k bt629.1 bt621.2.1).bind fun bt633 => (if bt621.2.2 = 0 then (if bt629.2 = 0 then (if bt633.2 = 0 then (if (bt621.2.1.length : Int) ≥ (x13.length : Int) then (foghornlaw18_FieldRings.j2 k x4 x5 x6 true) else ((foghornlaw18_same.f k bt633.1 x11).bind fun t637 => (foghornlaw18_FieldRings.j2 k x4 x5 x6 (!t637)))) else (foghornlaw18_FieldRings.j2 k x4 x5 x6 true)) else (foghornlaw18_FieldRings.j2 k x4 x5 x6 true)) else (foghornlaw18_FieldRings.j2 k x4 x5 x6 true))))))
def foghornlaw18_FieldRings.j2 : Nat → List Int → List Int → List Int → Bool → Option (Bool)
  | 0, _, _, _, _ => none
  | k + 1, x4, x5, x6, x223 => if x223 = true then (some false) else ((field_Product.f k x4 x6).bind fun bt638 => ((field_Product.f k x5 x6).bind fun bt642 => ((field_Gcd.f k bt638.1 bt642.1).bind fun bt646 => (if bt638.2 = 0 then (if bt642.2 = 0 then (if bt646.2 = 0 then ((foghornlaw18_divides.f k bt646.1 bt638.1).bind fun t650 => (if t650 = true then ((foghornlaw18_divides.f k bt646.1 bt642.1).bind fun t651 => (if t651 = true then ((foghornlaw18_divides.f k x6 bt646.1).bind fun t652 => (if t652 = true then ((foghornlaw18_awake.f k).bind fun t653 => (some t653)) else (some false))) else (some false))) else (some false))) else (some false)) else (some false)) else (some false)))))
end
def foghornlaw18_FieldRings.f (k : Nat) (l0_0 : List Int) (l0_1 : List Int) (l0_2 : List Int) (a0_3 : Int) : Option (Bool) := if 0 ≤ (mn (l0_0.length : Int) 40) then (if (mn (l0_0.length : Int) 40) ≤ (l0_0.length : Int) then (if 0 ≤ (mn (l0_1.length : Int) 40) then (if (mn (l0_1.length : Int) 40) ≤ (l0_1.length : Int) then (if 0 ≤ (mn (l0_2.length : Int) 10) then (if (mn (l0_2.length : Int) 10) ≤ (l0_2.length : Int) then ((field_Sum.f k (l0_0.take ((mn (l0_0.length : Int) 40) : Int).toNat) (l0_1.take ((mn (l0_1.length : Int) 40) : Int).toNat)).bind fun bt592 => ((field_Product.f k (l0_0.take ((mn (l0_0.length : Int) 40) : Int).toNat) (l0_1.take ((mn (l0_1.length : Int) 40) : Int).toNat)).bind fun bt596 => ((field_Sum.f k (l0_0.take ((mn (l0_0.length : Int) 40) : Int).toNat) ([] : List Int)).bind fun bt600 => ((field_Sum.f k (l0_1.take ((mn (l0_1.length : Int) 40) : Int).toNat) ([] : List Int)).bind fun bt604 => (if bt592.2 = 0 then (if bt596.2 = 0 then (if bt600.2 = 0 then (foghornlaw18_FieldRings.j0 k a0_3 (l0_0.take ((mn (l0_0.length : Int) 40) : Int).toNat) (l0_1.take ((mn (l0_1.length : Int) 40) : Int).toNat) (l0_2.take ((mn (l0_2.length : Int) 10) : Int).toNat) bt592.1 bt596.1 bt600.1 bt604.1 (bt604.2 != 0)) else (foghornlaw18_FieldRings.j0 k a0_3 (l0_0.take ((mn (l0_0.length : Int) 40) : Int).toNat) (l0_1.take ((mn (l0_1.length : Int) 40) : Int).toNat) (l0_2.take ((mn (l0_2.length : Int) 10) : Int).toNat) bt592.1 bt596.1 bt600.1 bt604.1 true)) else (foghornlaw18_FieldRings.j0 k a0_3 (l0_0.take ((mn (l0_0.length : Int) 40) : Int).toNat) (l0_1.take ((mn (l0_1.length : Int) 40) : Int).toNat) (l0_2.take ((mn (l0_2.length : Int) 10) : Int).toNat) bt592.1 bt596.1 bt600.1 bt604.1 true)) else (foghornlaw18_FieldRings.j0 k a0_3 (l0_0.take ((mn (l0_0.length : Int) 40) : Int).toNat) (l0_1.take ((mn (l0_1.length : Int) 40) : Int).toNat) (l0_2.take ((mn (l0_2.length : Int) 10) : Int).toNat) bt592.1 bt596.1 bt600.1 bt604.1 true)))))) else (none)) else (none)) else (none)) else (none)) else (none)) else (none)
theorem foghornlaw18_FieldRings.mono_l : ∀ k, (∀ y0 y1 y2 y3 y4 y5 y6 y7 y8, LeO (foghornlaw18_FieldRings.j0 k y0 y1 y2 y3 y4 y5 y6 y7 y8) (foghornlaw18_FieldRings.j0 (k + 1) y0 y1 y2 y3 y4 y5 y6 y7 y8)) ∧ (∀ y0 y1 y2 y3 y4 y5, LeO (foghornlaw18_FieldRings.j1 k y0 y1 y2 y3 y4 y5) (foghornlaw18_FieldRings.j1 (k + 1) y0 y1 y2 y3 y4 y5)) ∧ (∀ y0 y1 y2 y3, LeO (foghornlaw18_FieldRings.j2 k y0 y1 y2 y3) (foghornlaw18_FieldRings.j2 (k + 1) y0 y1 y2 y3))
  | 0 => ⟨fun _ _ _ _ _ _ _ _ _ r h => by simp [foghornlaw18_FieldRings.j0] at h, fun _ _ _ _ _ _ r h => by simp [foghornlaw18_FieldRings.j1] at h, fun _ _ _ _ r h => by simp [foghornlaw18_FieldRings.j2] at h⟩
  | k + 1 => by
    obtain ⟨ih0, ih1, ih2⟩ := foghornlaw18_FieldRings.mono_l k
    refine ⟨?_, ?_, ?_⟩
    · intro y0 y1 y2 y3 y4 y5 y6 y7 y8
      unfold foghornlaw18_FieldRings.j0
      repeat' first
      | (with_reducible exact ih0 _ _ _ _ _ _ _ _ _)
      | (with_reducible exact ih1 _ _ _ _ _ _)
      | (with_reducible exact ih2 _ _ _ _)
      | (with_reducible exact field_Divide.mono _ _ _)
      | (with_reducible exact field_Gcd.mono _ _ _)
      | (with_reducible exact field_Product.mono _ _ _)
      | (with_reducible exact field_Sum.mono _ _ _)
      | (with_reducible exact field_Times.mono _ _ _)
      | (with_reducible exact foghornlaw18_awake.mono _)
      | (with_reducible exact foghornlaw18_divides.mono _ _ _)
      | (with_reducible exact foghornlaw18_same.mono _ _ _)
      | (with_reducible exact LeO.refl _)
      | (with_reducible exact LeO.none _)
      | (with_reducible refine LeO.ite ?_ ?_)
      | (with_reducible refine LeO.bind ?_ (fun _ => ?_))
      | exact ih0 _ _ _ _ _ _ _ _ _
      | exact ih1 _ _ _ _ _ _
      | exact ih2 _ _ _ _
      | exact field_Divide.mono _ _ _
      | exact field_Gcd.mono _ _ _
      | exact field_Product.mono _ _ _
      | exact field_Sum.mono _ _ _
      | exact field_Times.mono _ _ _
      | exact foghornlaw18_awake.mono _
      | exact foghornlaw18_divides.mono _ _ _
      | exact foghornlaw18_same.mono _ _ _
      | exact LeO.none _
      | refine LeO.ite ?_ ?_
      | refine LeO.bind ?_ (fun _ => ?_)
    · intro y0 y1 y2 y3 y4 y5
      unfold foghornlaw18_FieldRings.j1
      repeat' first
      | (with_reducible exact ih0 _ _ _ _ _ _ _ _ _)
      | (with_reducible exact ih1 _ _ _ _ _ _)
      | (with_reducible exact ih2 _ _ _ _)
      | (with_reducible exact field_Divide.mono _ _ _)
      | (with_reducible exact field_Gcd.mono _ _ _)
      | (with_reducible exact field_Product.mono _ _ _)
      | (with_reducible exact field_Sum.mono _ _ _)
      | (with_reducible exact field_Times.mono _ _ _)
      | (with_reducible exact foghornlaw18_awake.mono _)
      | (with_reducible exact foghornlaw18_divides.mono _ _ _)
      | (with_reducible exact foghornlaw18_same.mono _ _ _)
      | (with_reducible exact LeO.refl _)
      | (with_reducible exact LeO.none _)
      | (with_reducible refine LeO.ite ?_ ?_)
      | (with_reducible refine LeO.bind ?_ (fun _ => ?_))
      | exact ih0 _ _ _ _ _ _ _ _ _
      | exact ih1 _ _ _ _ _ _
      | exact ih2 _ _ _ _
      | exact field_Divide.mono _ _ _
      | exact field_Gcd.mono _ _ _
      | exact field_Product.mono _ _ _
      | exact field_Sum.mono _ _ _
      | exact field_Times.mono _ _ _
      | exact foghornlaw18_awake.mono _
      | exact foghornlaw18_divides.mono _ _ _
      | exact foghornlaw18_same.mono _ _ _
      | exact LeO.none _
      | refine LeO.ite ?_ ?_
      | refine LeO.bind ?_ (fun _ => ?_)
    · intro y0 y1 y2 y3
      unfold foghornlaw18_FieldRings.j2
      repeat' first
      | (with_reducible exact ih0 _ _ _ _ _ _ _ _ _)
      | (with_reducible exact ih1 _ _ _ _ _ _)
      | (with_reducible exact ih2 _ _ _ _)
      | (with_reducible exact field_Divide.mono _ _ _)
      | (with_reducible exact field_Gcd.mono _ _ _)
      | (with_reducible exact field_Product.mono _ _ _)
      | (with_reducible exact field_Sum.mono _ _ _)
      | (with_reducible exact field_Times.mono _ _ _)
      | (with_reducible exact foghornlaw18_awake.mono _)
      | (with_reducible exact foghornlaw18_divides.mono _ _ _)
      | (with_reducible exact foghornlaw18_same.mono _ _ _)
      | (with_reducible exact LeO.refl _)
      | (with_reducible exact LeO.none _)
      | (with_reducible refine LeO.ite ?_ ?_)
      | (with_reducible refine LeO.bind ?_ (fun _ => ?_))
      | exact ih0 _ _ _ _ _ _ _ _ _
      | exact ih1 _ _ _ _ _ _
      | exact ih2 _ _ _ _
      | exact field_Divide.mono _ _ _
      | exact field_Gcd.mono _ _ _
      | exact field_Product.mono _ _ _
      | exact field_Sum.mono _ _ _
      | exact field_Times.mono _ _ _
      | exact foghornlaw18_awake.mono _
      | exact foghornlaw18_divides.mono _ _ _
      | exact foghornlaw18_same.mono _ _ _
      | exact LeO.none _
      | refine LeO.ite ?_ ?_
      | refine LeO.bind ?_ (fun _ => ?_)
theorem foghornlaw18_FieldRings.mono : ∀ a0 a1 a2 a3 k, LeO (foghornlaw18_FieldRings.f k a0 a1 a2 a3) (foghornlaw18_FieldRings.f (k + 1) a0 a1 a2 a3) := by
  intro a0 a1 a2 a3 k
  obtain ⟨ih0, ih1, ih2⟩ := foghornlaw18_FieldRings.mono_l k
  unfold foghornlaw18_FieldRings.f
  repeat' first
      | (with_reducible exact ih0 _ _ _ _ _ _ _ _ _)
      | (with_reducible exact ih1 _ _ _ _ _ _)
      | (with_reducible exact ih2 _ _ _ _)
      | (with_reducible exact field_Divide.mono _ _ _)
      | (with_reducible exact field_Gcd.mono _ _ _)
      | (with_reducible exact field_Product.mono _ _ _)
      | (with_reducible exact field_Sum.mono _ _ _)
      | (with_reducible exact field_Times.mono _ _ _)
      | (with_reducible exact foghornlaw18_awake.mono _)
      | (with_reducible exact foghornlaw18_divides.mono _ _ _)
      | (with_reducible exact foghornlaw18_same.mono _ _ _)
      | (with_reducible exact LeO.refl _)
      | (with_reducible exact LeO.none _)
      | (with_reducible refine LeO.ite ?_ ?_)
      | (with_reducible refine LeO.bind ?_ (fun _ => ?_))
      | exact ih0 _ _ _ _ _ _ _ _ _
      | exact ih1 _ _ _ _ _ _
      | exact ih2 _ _ _ _
      | exact field_Divide.mono _ _ _
      | exact field_Gcd.mono _ _ _
      | exact field_Product.mono _ _ _
      | exact field_Sum.mono _ _ _
      | exact field_Times.mono _ _ _
      | exact foghornlaw18_awake.mono _
      | exact foghornlaw18_divides.mono _ _ _
      | exact foghornlaw18_same.mono _ _ _
      | exact LeO.none _
      | refine LeO.ite ?_ ?_
      | refine LeO.bind ?_ (fun _ => ?_)
/-- THE ONE PURE STATEMENT of foghornlaw18_FieldRings: ours. -/
def foghornlaw18_FieldRings.Pure : Prop := ∀ (l0_0 : List Int) (l0_1 : List Int) (l0_2 : List Int) (a0_3 : Int), (l0_0.length ≤ maxLen ∧ ∀ x ∈ l0_0, (fun y_ : Int => (Lit.int .u8 y_).wf = true) x) → (l0_1.length ≤ maxLen ∧ ∀ x ∈ l0_1, (fun y_ : Int => (Lit.int .u8 y_).wf = true) x) → (l0_2.length ≤ maxLen ∧ ∀ x ∈ l0_2, (fun y_ : Int => (Lit.int .u8 y_).wf = true) x) → ((Lit.int .u8 a0_3).wf = true) → ∃ k, foghornlaw18_FieldRings.f k l0_0 l0_1 l0_2 a0_3 = some true

/-! ### field_Roots: function 58 -/
def field_Roots.l0 : Nat → List Int → List Int → Int → Option (List Int × Int)
  | 0, _, _, _ => none
  | k + 1, x0, x4, x13 => if x13 < 256 then ((field_at.f x0 ((x13) % 256)).bind fun t661 => (if t661 = 0 then (if x4.length < 140737488355328 then (field_Roots.l0 k x0 (x4 ++ [(x13) % 256]) (wrap64 (x13 + 1))) else (none)) else (field_Roots.l0 k x0 x4 (wrap64 (x13 + 1))))) else (some (x4, 0))
def field_Roots.f (k : Nat) (l0 : List Int) : Option (List Int × Int) := (field_long.f (([l0] : List (List Int)))).bind fun t657 => (if t657 = true then (some (([] : List Int), 1)) else ((field_poly.f k l0).bind fun t658 => (if (t658.length : Int) = 0 then (some (([] : List Int), 6)) else (field_Roots.l0 k l0 ([] : List Int) 0))))
theorem field_Roots.mono_l : ∀ k, (∀ y0 y1 y2, LeO (field_Roots.l0 k y0 y1 y2) (field_Roots.l0 (k + 1) y0 y1 y2))
  | 0 => fun _ _ _ r h => by simp [field_Roots.l0] at h
  | k + 1 => by
    have ih0 := field_Roots.mono_l k
    · intro y0 y1 y2
      unfold field_Roots.l0
      repeat' first
      | (with_reducible exact ih0 _ _ _)
      | (with_reducible exact field_poly.mono _ _)
      | (with_reducible exact LeO.refl _)
      | (with_reducible exact LeO.none _)
      | (with_reducible refine LeO.ite ?_ ?_)
      | (with_reducible refine LeO.bind ?_ (fun _ => ?_))
      | exact ih0 _ _ _
      | exact field_poly.mono _ _
      | exact LeO.none _
      | refine LeO.ite ?_ ?_
      | refine LeO.bind ?_ (fun _ => ?_)
theorem field_Roots.mono : ∀ a0 k, LeO (field_Roots.f k a0) (field_Roots.f (k + 1) a0) := by
  intro a0 k
  have ih0 := field_Roots.mono_l k
  unfold field_Roots.f
  repeat' first
      | (with_reducible exact ih0 _ _ _)
      | (with_reducible exact field_poly.mono _ _)
      | (with_reducible exact LeO.refl _)
      | (with_reducible exact LeO.none _)
      | (with_reducible refine LeO.ite ?_ ?_)
      | (with_reducible refine LeO.bind ?_ (fun _ => ?_))
      | exact ih0 _ _ _
      | exact field_poly.mono _ _
      | exact LeO.none _
      | refine LeO.ite ?_ ?_
      | refine LeO.bind ?_ (fun _ => ?_)

/-! ### field_Slope: function 59 -/
def field_Slope.l0 : Nat → List Int → Int → Int → Option (List Int × Int)
  | 0, _, _, _ => none
  | k + 1, x4, x16, x17 => if x17 < x16 then (if (Go.bits .and .i64 x17 1) > 0 then (if 0 ≤ x17 then (if x17 < (x4.length : Int) then (field_Slope.l0 k (x4.set (x17 : Int).toNat 0) x16 (wrap64 (x17 + 1))) else (none)) else (none)) else (field_Slope.l0 k x4 x16 (wrap64 (x17 + 1)))) else ((field_poly.f k x4).bind fun t678 => (some (t678, 0)))
def field_Slope.f (k : Nat) (l0 : List Int) : Option (List Int × Int) := (field_long.f (([l0] : List (List Int)))).bind fun t668 => (if t668 = true then (some (([] : List Int), 1)) else (if 0 ≤ (mn 1 (l0.length : Int)) then (if (mn 1 (l0.length : Int)) ≤ (l0.length : Int) then ((slices_Clone_uint8_uint8.f (l0.drop ((mn 1 (l0.length : Int)) : Int).toNat)).bind fun t674 => (field_Slope.l0 k t674 (t674.length : Int) 0)) else (none)) else (none)))
theorem field_Slope.mono_l : ∀ k, (∀ y0 y1 y2, LeO (field_Slope.l0 k y0 y1 y2) (field_Slope.l0 (k + 1) y0 y1 y2))
  | 0 => fun _ _ _ r h => by simp [field_Slope.l0] at h
  | k + 1 => by
    have ih0 := field_Slope.mono_l k
    · intro y0 y1 y2
      unfold field_Slope.l0
      repeat' first
      | (with_reducible exact ih0 _ _ _)
      | (with_reducible exact field_poly.mono _ _)
      | (with_reducible exact LeO.refl _)
      | (with_reducible exact LeO.none _)
      | (with_reducible refine LeO.ite ?_ ?_)
      | (with_reducible refine LeO.bind ?_ (fun _ => ?_))
      | exact ih0 _ _ _
      | exact field_poly.mono _ _
      | exact LeO.none _
      | refine LeO.ite ?_ ?_
      | refine LeO.bind ?_ (fun _ => ?_)
theorem field_Slope.mono : ∀ a0 k, LeO (field_Slope.f k a0) (field_Slope.f (k + 1) a0) := by
  intro a0 k
  have ih0 := field_Slope.mono_l k
  unfold field_Slope.f
  repeat' first
      | (with_reducible exact ih0 _ _ _)
      | (with_reducible exact field_poly.mono _ _)
      | (with_reducible exact LeO.refl _)
      | (with_reducible exact LeO.none _)
      | (with_reducible refine LeO.ite ?_ ?_)
      | (with_reducible refine LeO.bind ?_ (fun _ => ?_))
      | exact ih0 _ _ _
      | exact field_poly.mono _ _
      | exact LeO.none _
      | refine LeO.ite ?_ ?_
      | refine LeO.bind ?_ (fun _ => ?_)

/-! ### foghornlaw18_FieldRoots: function 12 -/
mutual
def foghornlaw18_FieldRoots.j0 : Nat → List Int → Int → List Int → List Int → List Int → Bool → Option (Bool)
  | 0, _, _, _, _, _, _ => none
  | k + 1, x1, x2, x7, x10, x12, x75 => if x75 = true then (some false) else (foghornlaw18_FieldRoots.l0 k x1 x2 x7 x10 x12 (List.replicate 256 0) 0)
def foghornlaw18_FieldRoots.l0 : Nat → List Int → Int → List Int → List Int → List Int → List Int → Int → Option (Bool)
  | 0, _, _, _, _, _, _, _ => none
  | k + 1, x1, x2, x7, x10, x12, x14, x15 => if x15 < (x7.length : Int) then (if 0 ≤ x15 then (if 0 ≤ (rd x7 x15) then (if (rd x7 x15) < 256 then (if (rd x7 x15) < (x14.length : Int) then (foghornlaw18_FieldRoots.l0 k x1 x2 x7 x10 x12 (x14.set ((rd x7 x15) : Int).toNat (wrap64 ((rd x14 (rd x7 x15)) + 1))) (wrap64 (x15 + 1))) else (none)) else (none)) else (none)) else (none)) else (foghornlaw18_FieldRoots.l1 k x1 x2 x10 x12 x14 0 0)
def foghornlaw18_FieldRoots.l1 : Nat → List Int → Int → List Int → List Int → List Int → Int → Int → Option (Bool)
  | 0, _, _, _, _, _, _, _ => none
  | k + 1, x1, x2, x10, x12, x14, x16, x17 => if x17 < 256 then (if x16 < (x10.length : Int) then (if 0 ≤ x16 then (foghornlaw18_FieldRoots.j3 k x1 x2 x10 x12 x14 x16 x17 ((rd x10 x16) == ((x17) % 256))) else (none)) else (foghornlaw18_FieldRoots.j3 k x1 x2 x10 x12 x14 x16 x17 false)) else (if 0 ≤ (mn (x1.length : Int) 20) then (if (mn (x1.length : Int) 20) ≤ (x1.length : Int) then ((field_Sum.f k (x1.take ((mn (x1.length : Int) 20) : Int).toNat) ([] : List Int)).bind fun bt710 => (foghornlaw18_FieldRoots.l2 k x2 x10 x16 bt710.1 bt710.2 ([] : List (S45)) 0)) else (none)) else (none))
def foghornlaw18_FieldRoots.j3 : Nat → List Int → Int → List Int → List Int → List Int → Int → Int → Bool → Option (Bool)
  | 0, _, _, _, _, _, _, _, _ => none
  | k + 1, x1, x2, x10, x12, x14, x16, x17, x18 => if x18 = true then ((field_At.f x12 ((x17) % 256)).bind fun bt702 => (if bt702.2 = 0 then (if 0 ≤ x17 then (if x17 < 256 then (if x17 < (x14.length : Int) then (if (x18 != (decide ((rd x14 x17) > 0))) = true then (some false) else (if ((bt702.1 == 0) != (decide ((rd x14 x17) > 1))) = true then (some false) else (foghornlaw18_FieldRoots.l1 k x1 x2 x10 x12 x14 (wrap64 (x16 + 1)) (wrap64 (x17 + 1))))) else (none)) else (none)) else (none)) else (some false))) else ((field_At.f x12 ((x17) % 256)).bind fun bt706 => (if bt706.2 = 0 then (if 0 ≤ x17 then (if x17 < 256 then (if x17 < (x14.length : Int) then (if (x18 != (decide ((rd x14 x17) > 0))) = true then (some false) else (foghornlaw18_FieldRoots.l1 k x1 x2 x10 x12 x14 x16 (wrap64 (x17 + 1)))) else (none)) else (none)) else (none)) else (some false)))
def foghornlaw18_FieldRoots.l2 : Nat → Int → List Int → Int → List Int → Int → List (S45) → Int → Option (Bool)
  | 0, _, _, _, _, _, _, _ => none
  | k + 1, x2, x10, x16, x21, x22, x23, x24 => if x24 < (wrap64 ((x21.length : Int) + 3)) then ((field_At.f x21 ((x2 + x24) % 256)).bind fun bt714 => (if bt714.2 = 0 then (if x23.length < 70368744177664 then (foghornlaw18_FieldRoots.l2 k x2 x10 x16 x21 x22 (x23 ++ [(⟨(x2 + x24) % 256, bt714.1⟩ : S45)]) (wrap64 (x24 + 1))) else (none)) else (some false))) else ((field_Through.f k x23).bind fun bt719 => (if 0 < (x23.length : Int) then (if x23.length < 70368744177664 then ((field_Through.f k (x23 ++ [(⟨(rd_T45 x23 0).f0, (rd_T45 x23 0).f1⟩ : S45)])).bind fun bt727 => (if x16 = (x10.length : Int) then (if x22 = 0 then (if bt719.2 = 0 then ((foghornlaw18_same.f k bt719.1 x21).bind fun t731 => (if t731 = true then (if bt727.2 = 1 then (if (bt727.1.length : Int) = 0 then ((foghornlaw18_awake.f k).bind fun t732 => (some t732)) else (some false)) else (some false)) else (some false))) else (some false)) else (some false)) else (some false))) else (none)) else (none)))
end
def foghornlaw18_FieldRoots.f (k : Nat) (l0 : List Int) (l1 : List Int) (a2 : Int) : Option (Bool) := if 0 ≤ (mn (l0.length : Int) 30) then (if (mn (l0.length : Int) 30) ≤ (l0.length : Int) then ((field_Of.f k (l0.take ((mn (l0.length : Int) 30) : Int).toNat)).bind fun bt682 => ((field_Roots.f k bt682.1).bind fun bt686 => ((field_Slope.f k bt682.1).bind fun bt690 => (if bt682.2 = 0 then (if bt686.2 = 0 then (if bt690.2 = 0 then ((foghornlaw18_degree.f bt682.1).bind fun t694 => (if t694 = ((l0.take ((mn (l0.length : Int) 30) : Int).toNat).length : Int) then (foghornlaw18_FieldRoots.j0 k l1 a2 (l0.take ((mn (l0.length : Int) 30) : Int).toNat) bt686.1 bt690.1 (decide ((bt686.1.length : Int) > ((l0.take ((mn (l0.length : Int) 30) : Int).toNat).length : Int)))) else (foghornlaw18_FieldRoots.j0 k l1 a2 (l0.take ((mn (l0.length : Int) 30) : Int).toNat) bt686.1 bt690.1 true))) else (foghornlaw18_FieldRoots.j0 k l1 a2 (l0.take ((mn (l0.length : Int) 30) : Int).toNat) bt686.1 bt690.1 true)) else (foghornlaw18_FieldRoots.j0 k l1 a2 (l0.take ((mn (l0.length : Int) 30) : Int).toNat) bt686.1 bt690.1 true)) else (foghornlaw18_FieldRoots.j0 k l1 a2 (l0.take ((mn (l0.length : Int) 30) : Int).toNat) bt686.1 bt690.1 true))))) else (none)) else (none)
theorem foghornlaw18_FieldRoots.mono_l : ∀ k, (∀ y0 y1 y2 y3 y4 y5, LeO (foghornlaw18_FieldRoots.j0 k y0 y1 y2 y3 y4 y5) (foghornlaw18_FieldRoots.j0 (k + 1) y0 y1 y2 y3 y4 y5)) ∧ (∀ y0 y1 y2 y3 y4 y5 y6, LeO (foghornlaw18_FieldRoots.l0 k y0 y1 y2 y3 y4 y5 y6) (foghornlaw18_FieldRoots.l0 (k + 1) y0 y1 y2 y3 y4 y5 y6)) ∧ (∀ y0 y1 y2 y3 y4 y5 y6, LeO (foghornlaw18_FieldRoots.l1 k y0 y1 y2 y3 y4 y5 y6) (foghornlaw18_FieldRoots.l1 (k + 1) y0 y1 y2 y3 y4 y5 y6)) ∧ (∀ y0 y1 y2 y3 y4 y5 y6 y7, LeO (foghornlaw18_FieldRoots.j3 k y0 y1 y2 y3 y4 y5 y6 y7) (foghornlaw18_FieldRoots.j3 (k + 1) y0 y1 y2 y3 y4 y5 y6 y7)) ∧ (∀ y0 y1 y2 y3 y4 y5 y6, LeO (foghornlaw18_FieldRoots.l2 k y0 y1 y2 y3 y4 y5 y6) (foghornlaw18_FieldRoots.l2 (k + 1) y0 y1 y2 y3 y4 y5 y6))
  | 0 => ⟨fun _ _ _ _ _ _ r h => by simp [foghornlaw18_FieldRoots.j0] at h, fun _ _ _ _ _ _ _ r h => by simp [foghornlaw18_FieldRoots.l0] at h, fun _ _ _ _ _ _ _ r h => by simp [foghornlaw18_FieldRoots.l1] at h, fun _ _ _ _ _ _ _ _ r h => by simp [foghornlaw18_FieldRoots.j3] at h, fun _ _ _ _ _ _ _ r h => by simp [foghornlaw18_FieldRoots.l2] at h⟩
  | k + 1 => by
    obtain ⟨ih0, ih1, ih2, ih3, ih4⟩ := foghornlaw18_FieldRoots.mono_l k
    refine ⟨?_, ?_, ?_, ?_, ?_⟩
    · intro y0 y1 y2 y3 y4 y5
      unfold foghornlaw18_FieldRoots.j0
      repeat' first
      | (with_reducible exact ih0 _ _ _ _ _ _)
      | (with_reducible exact ih1 _ _ _ _ _ _ _)
      | (with_reducible exact ih2 _ _ _ _ _ _ _)
      | (with_reducible exact ih3 _ _ _ _ _ _ _ _)
      | (with_reducible exact ih4 _ _ _ _ _ _ _)
      | (with_reducible exact field_Of.mono _ _)
      | (with_reducible exact field_Roots.mono _ _)
      | (with_reducible exact field_Slope.mono _ _)
      | (with_reducible exact field_Sum.mono _ _ _)
      | (with_reducible exact field_Through.mono _ _)
      | (with_reducible exact foghornlaw18_awake.mono _)
      | (with_reducible exact foghornlaw18_same.mono _ _ _)
      | (with_reducible exact LeO.refl _)
      | (with_reducible exact LeO.none _)
      | (with_reducible refine LeO.ite ?_ ?_)
      | (with_reducible refine LeO.bind ?_ (fun _ => ?_))
      | exact ih0 _ _ _ _ _ _
      | exact ih1 _ _ _ _ _ _ _
      | exact ih2 _ _ _ _ _ _ _
      | exact ih3 _ _ _ _ _ _ _ _
      | exact ih4 _ _ _ _ _ _ _
      | exact field_Of.mono _ _
      | exact field_Roots.mono _ _
      | exact field_Slope.mono _ _
      | exact field_Sum.mono _ _ _
      | exact field_Through.mono _ _
      | exact foghornlaw18_awake.mono _
      | exact foghornlaw18_same.mono _ _ _
      | exact LeO.none _
      | refine LeO.ite ?_ ?_
      | refine LeO.bind ?_ (fun _ => ?_)
    · intro y0 y1 y2 y3 y4 y5 y6
      unfold foghornlaw18_FieldRoots.l0
      repeat' first
      | (with_reducible exact ih0 _ _ _ _ _ _)
      | (with_reducible exact ih1 _ _ _ _ _ _ _)
      | (with_reducible exact ih2 _ _ _ _ _ _ _)
      | (with_reducible exact ih3 _ _ _ _ _ _ _ _)
      | (with_reducible exact ih4 _ _ _ _ _ _ _)
      | (with_reducible exact field_Of.mono _ _)
      | (with_reducible exact field_Roots.mono _ _)
      | (with_reducible exact field_Slope.mono _ _)
      | (with_reducible exact field_Sum.mono _ _ _)
      | (with_reducible exact field_Through.mono _ _)
      | (with_reducible exact foghornlaw18_awake.mono _)
      | (with_reducible exact foghornlaw18_same.mono _ _ _)
      | (with_reducible exact LeO.refl _)
      | (with_reducible exact LeO.none _)
      | (with_reducible refine LeO.ite ?_ ?_)
      | (with_reducible refine LeO.bind ?_ (fun _ => ?_))
      | exact ih0 _ _ _ _ _ _
      | exact ih1 _ _ _ _ _ _ _
      | exact ih2 _ _ _ _ _ _ _
      | exact ih3 _ _ _ _ _ _ _ _
      | exact ih4 _ _ _ _ _ _ _
      | exact field_Of.mono _ _
      | exact field_Roots.mono _ _
      | exact field_Slope.mono _ _
      | exact field_Sum.mono _ _ _
      | exact field_Through.mono _ _
      | exact foghornlaw18_awake.mono _
      | exact foghornlaw18_same.mono _ _ _
      | exact LeO.none _
      | refine LeO.ite ?_ ?_
      | refine LeO.bind ?_ (fun _ => ?_)
    · intro y0 y1 y2 y3 y4 y5 y6
      unfold foghornlaw18_FieldRoots.l1
      repeat' first
      | (with_reducible exact ih0 _ _ _ _ _ _)
      | (with_reducible exact ih1 _ _ _ _ _ _ _)
      | (with_reducible exact ih2 _ _ _ _ _ _ _)
      | (with_reducible exact ih3 _ _ _ _ _ _ _ _)
      | (with_reducible exact ih4 _ _ _ _ _ _ _)
      | (with_reducible exact field_Of.mono _ _)
      | (with_reducible exact field_Roots.mono _ _)
      | (with_reducible exact field_Slope.mono _ _)
      | (with_reducible exact field_Sum.mono _ _ _)
      | (with_reducible exact field_Through.mono _ _)
      | (with_reducible exact foghornlaw18_awake.mono _)
      | (with_reducible exact foghornlaw18_same.mono _ _ _)
      | (with_reducible exact LeO.refl _)
      | (with_reducible exact LeO.none _)
      | (with_reducible refine LeO.ite ?_ ?_)
      | (with_reducible refine LeO.bind ?_ (fun _ => ?_))
      | exact ih0 _ _ _ _ _ _
      | exact ih1 _ _ _ _ _ _ _
      | exact ih2 _ _ _ _ _ _ _
      | exact ih3 _ _ _ _ _ _ _ _
      | exact ih4 _ _ _ _ _ _ _
      | exact field_Of.mono _ _
      | exact field_Roots.mono _ _
      | exact field_Slope.mono _ _
      | exact field_Sum.mono _ _ _
      | exact field_Through.mono _ _
      | exact foghornlaw18_awake.mono _
      | exact foghornlaw18_same.mono _ _ _
      | exact LeO.none _
      | refine LeO.ite ?_ ?_
      | refine LeO.bind ?_ (fun _ => ?_)
    · intro y0 y1 y2 y3 y4 y5 y6 y7
      unfold foghornlaw18_FieldRoots.j3
      repeat' first
      | (with_reducible exact ih0 _ _ _ _ _ _)
      | (with_reducible exact ih1 _ _ _ _ _ _ _)
      | (with_reducible exact ih2 _ _ _ _ _ _ _)
      | (with_reducible exact ih3 _ _ _ _ _ _ _ _)
      | (with_reducible exact ih4 _ _ _ _ _ _ _)
      | (with_reducible exact field_Of.mono _ _)
      | (with_reducible exact field_Roots.mono _ _)
      | (with_reducible exact field_Slope.mono _ _)
      | (with_reducible exact field_Sum.mono _ _ _)
      | (with_reducible exact field_Through.mono _ _)
      | (with_reducible exact foghornlaw18_awake.mono _)
      | (with_reducible exact foghornlaw18_same.mono _ _ _)
      | (with_reducible exact LeO.refl _)
      | (with_reducible exact LeO.none _)
      | (with_reducible refine LeO.ite ?_ ?_)
      | (with_reducible refine LeO.bind ?_ (fun _ => ?_))
      | exact ih0 _ _ _ _ _ _
      | exact ih1 _ _ _ _ _ _ _
      | exact ih2 _ _ _ _ _ _ _
      | exact ih3 _ _ _ _ _ _ _ _
      | exact ih4 _ _ _ _ _ _ _
      | exact field_Of.mono _ _
      | exact field_Roots.mono _ _
      | exact field_Slope.mono _ _
      | exact field_Sum.mono _ _ _
      | exact field_Through.mono _ _
      | exact foghornlaw18_awake.mono _
      | exact foghornlaw18_same.mono _ _ _
      | exact LeO.none _
      | refine LeO.ite ?_ ?_
      | refine LeO.bind ?_ (fun _ => ?_)
    · intro y0 y1 y2 y3 y4 y5 y6
      unfold foghornlaw18_FieldRoots.l2
      repeat' first
      | (with_reducible exact ih0 _ _ _ _ _ _)
      | (with_reducible exact ih1 _ _ _ _ _ _ _)
      | (with_reducible exact ih2 _ _ _ _ _ _ _)
      | (with_reducible exact ih3 _ _ _ _ _ _ _ _)
      | (with_reducible exact ih4 _ _ _ _ _ _ _)
      | (with_reducible exact field_Of.mono _ _)
      | (with_reducible exact field_Roots.mono _ _)
      | (with_reducible exact field_Slope.mono _ _)
      | (with_reducible exact field_Sum.mono _ _ _)
      | (with_reducible exact field_Through.mono _ _)
      | (with_reducible exact foghornlaw18_awake.mono _)
      | (with_reducible exact foghornlaw18_same.mono _ _ _)
      | (with_reducible exact LeO.refl _)
      | (with_reducible exact LeO.none _)
      | (with_reducible refine LeO.ite ?_ ?_)
      | (with_reducible refine LeO.bind ?_ (fun _ => ?_))
      | exact ih0 _ _ _ _ _ _
      | exact ih1 _ _ _ _ _ _ _
      | exact ih2 _ _ _ _ _ _ _
      | exact ih3 _ _ _ _ _ _ _ _
      | exact ih4 _ _ _ _ _ _ _
      | exact field_Of.mono _ _
      | exact field_Roots.mono _ _
      | exact field_Slope.mono _ _
      | exact field_Sum.mono _ _ _
      | exact field_Through.mono _ _
      | exact foghornlaw18_awake.mono _
      | exact foghornlaw18_same.mono _ _ _
      | exact LeO.none _
      | refine LeO.ite ?_ ?_
      | refine LeO.bind ?_ (fun _ => ?_)
theorem foghornlaw18_FieldRoots.mono : ∀ a0 a1 a2 k, LeO (foghornlaw18_FieldRoots.f k a0 a1 a2) (foghornlaw18_FieldRoots.f (k + 1) a0 a1 a2) := by
  intro a0 a1 a2 k
  obtain ⟨ih0, ih1, ih2, ih3, ih4⟩ := foghornlaw18_FieldRoots.mono_l k
  unfold foghornlaw18_FieldRoots.f
  repeat' first
      | (with_reducible exact ih0 _ _ _ _ _ _)
      | (with_reducible exact ih1 _ _ _ _ _ _ _)
      | (with_reducible exact ih2 _ _ _ _ _ _ _)
      | (with_reducible exact ih3 _ _ _ _ _ _ _ _)
      | (with_reducible exact ih4 _ _ _ _ _ _ _)
      | (with_reducible exact field_Of.mono _ _)
      | (with_reducible exact field_Roots.mono _ _)
      | (with_reducible exact field_Slope.mono _ _)
      | (with_reducible exact field_Sum.mono _ _ _)
      | (with_reducible exact field_Through.mono _ _)
      | (with_reducible exact foghornlaw18_awake.mono _)
      | (with_reducible exact foghornlaw18_same.mono _ _ _)
      | (with_reducible exact LeO.refl _)
      | (with_reducible exact LeO.none _)
      | (with_reducible refine LeO.ite ?_ ?_)
      | (with_reducible refine LeO.bind ?_ (fun _ => ?_))
      | exact ih0 _ _ _ _ _ _
      | exact ih1 _ _ _ _ _ _ _
      | exact ih2 _ _ _ _ _ _ _
      | exact ih3 _ _ _ _ _ _ _ _
      | exact ih4 _ _ _ _ _ _ _
      | exact field_Of.mono _ _
      | exact field_Roots.mono _ _
      | exact field_Slope.mono _ _
      | exact field_Sum.mono _ _ _
      | exact field_Through.mono _ _
      | exact foghornlaw18_awake.mono _
      | exact foghornlaw18_same.mono _ _ _
      | exact LeO.none _
      | refine LeO.ite ?_ ?_
      | refine LeO.bind ?_ (fun _ => ?_)
/-- THE ONE PURE STATEMENT of foghornlaw18_FieldRoots: yours. -/
def foghornlaw18_FieldRoots.Pure : Prop := ∀ (l0 : List Int) (l1 : List Int) (a2 : Int), l0.length ≤ maxLen → l0.length * 1 ≤ 140737488351232 → (∀ x ∈ l0, (Lit.int .u8 x).wf = true) → l1.length ≤ maxLen → l1.length * 1 ≤ 140737488351232 → (∀ x ∈ l1, (Lit.int .u8 x).wf = true) → (Lit.int .u8 a2).wf = true → ∃ k, foghornlaw18_FieldRoots.f k l0 l1 a2 = some true

/-! ### foghornlaw18_lent: function 60 -/
def foghornlaw18_lent.f (l0 : List Int) : Option (List Int) := (some (([] : List Int) : List Int)).bind fun y733 => (if y733.length + l0.length < 140737488355328 then ((some (y733 ++ l0 : List Int)).bind fun y736 => (if y736.length < 140737488355328 then ((some (y736 ++ [77] : List Int)).bind fun y739 => (if 0 ≤ (l0.length : Int) then (if (l0.length : Int) ≤ (y739.length : Int) then (some (y739.take ((l0.length : Int) : Int).toNat)) else (none)) else (none))) else (none))) else (none))

/-! ### foghornlaw18_spoilt: function 81 -/
mutual
def foghornlaw18_spoilt.l0 : Nat → List Int → List Int → List Int → Int → Option (Bool)
  | 0, _, _, _, _ => none
  | k + 1, x0, x1, x2, x7 => if x7 < (x0.length : Int) then (if 0 ≤ x7 then (foghornlaw18_spoilt.l0 k (x0.set (x7 : Int).toNat (Go.bits .xor .u8 (rd x0 x7) 255)) x1 x2 (wrap64 (x7 + 1))) else (none)) else (foghornlaw18_spoilt.l1 k x0 x1 x2 0)
def foghornlaw18_spoilt.l1 : Nat → List Int → List Int → List Int → Int → Option (Bool)
  | 0, _, _, _, _ => none
  | k + 1, x0, x1, x2, x8 => if x8 < 20 then (if x0.length < 140737488355328 then (foghornlaw18_spoilt.l1 k (x0 ++ [99]) x1 x2 (wrap64 (x8 + 1))) else (none)) else ((foghornref18_Same.f k x1 x2).bind fun t750 => (foghornlaw18_spoilt.l2 k x0 t750 0))
def foghornlaw18_spoilt.l2 : Nat → List Int → Bool → Int → Option (Bool)
  | 0, _, _, _ => none
  | k + 1, x0, x9, x10 => if x10 < (wrap64 ((x0.length : Int) - 20)) then (if 0 ≤ x10 then (if x10 < (x0.length : Int) then (foghornlaw18_spoilt.l2 k (x0.set (x10 : Int).toNat (Go.bits .xor .u8 (rd x0 x10) 255)) x9 (wrap64 (x10 + 1))) else (none)) else (none)) else (some x9)
end
def foghornlaw18_spoilt.f (k : Nat) (l0 : List Int) (l1 : List Int) (l2 : List Int) : Option (Bool) := foghornlaw18_spoilt.l0 k l0 l1 l2 0
theorem foghornlaw18_spoilt.mono_l : ∀ k, (∀ y0 y1 y2 y3, LeO (foghornlaw18_spoilt.l0 k y0 y1 y2 y3) (foghornlaw18_spoilt.l0 (k + 1) y0 y1 y2 y3)) ∧ (∀ y0 y1 y2 y3, LeO (foghornlaw18_spoilt.l1 k y0 y1 y2 y3) (foghornlaw18_spoilt.l1 (k + 1) y0 y1 y2 y3)) ∧ (∀ y0 y1 y2, LeO (foghornlaw18_spoilt.l2 k y0 y1 y2) (foghornlaw18_spoilt.l2 (k + 1) y0 y1 y2))
  | 0 => ⟨fun _ _ _ _ r h => by simp [foghornlaw18_spoilt.l0] at h, fun _ _ _ _ r h => by simp [foghornlaw18_spoilt.l1] at h, fun _ _ _ r h => by simp [foghornlaw18_spoilt.l2] at h⟩
  | k + 1 => by
    obtain ⟨ih0, ih1, ih2⟩ := foghornlaw18_spoilt.mono_l k
    refine ⟨?_, ?_, ?_⟩
    · intro y0 y1 y2 y3
      unfold foghornlaw18_spoilt.l0
      repeat' first
      | (with_reducible exact ih0 _ _ _ _)
      | (with_reducible exact ih1 _ _ _ _)
      | (with_reducible exact ih2 _ _ _)
      | (with_reducible exact foghornref18_Same.mono _ _ _)
      | (with_reducible exact LeO.refl _)
      | (with_reducible exact LeO.none _)
      | (with_reducible refine LeO.ite ?_ ?_)
      | (with_reducible refine LeO.bind ?_ (fun _ => ?_))
      | exact ih0 _ _ _ _
      | exact ih1 _ _ _ _
      | exact ih2 _ _ _
      | exact foghornref18_Same.mono _ _ _
      | exact LeO.none _
      | refine LeO.ite ?_ ?_
      | refine LeO.bind ?_ (fun _ => ?_)
    · intro y0 y1 y2 y3
      unfold foghornlaw18_spoilt.l1
      repeat' first
      | (with_reducible exact ih0 _ _ _ _)
      | (with_reducible exact ih1 _ _ _ _)
      | (with_reducible exact ih2 _ _ _)
      | (with_reducible exact foghornref18_Same.mono _ _ _)
      | (with_reducible exact LeO.refl _)
      | (with_reducible exact LeO.none _)
      | (with_reducible refine LeO.ite ?_ ?_)
      | (with_reducible refine LeO.bind ?_ (fun _ => ?_))
      | exact ih0 _ _ _ _
      | exact ih1 _ _ _ _
      | exact ih2 _ _ _
      | exact foghornref18_Same.mono _ _ _
      | exact LeO.none _
      | refine LeO.ite ?_ ?_
      | refine LeO.bind ?_ (fun _ => ?_)
    · intro y0 y1 y2
      unfold foghornlaw18_spoilt.l2
      repeat' first
      | (with_reducible exact ih0 _ _ _ _)
      | (with_reducible exact ih1 _ _ _ _)
      | (with_reducible exact ih2 _ _ _)
      | (with_reducible exact foghornref18_Same.mono _ _ _)
      | (with_reducible exact LeO.refl _)
      | (with_reducible exact LeO.none _)
      | (with_reducible refine LeO.ite ?_ ?_)
      | (with_reducible refine LeO.bind ?_ (fun _ => ?_))
      | exact ih0 _ _ _ _
      | exact ih1 _ _ _ _
      | exact ih2 _ _ _
      | exact foghornref18_Same.mono _ _ _
      | exact LeO.none _
      | refine LeO.ite ?_ ?_
      | refine LeO.bind ?_ (fun _ => ?_)
theorem foghornlaw18_spoilt.mono : ∀ a0 a1 a2 k, LeO (foghornlaw18_spoilt.f k a0 a1 a2) (foghornlaw18_spoilt.f (k + 1) a0 a1 a2) := by
  intro a0 a1 a2 k
  obtain ⟨ih0, ih1, ih2⟩ := foghornlaw18_spoilt.mono_l k
  unfold foghornlaw18_spoilt.f
  repeat' first
      | (with_reducible exact ih0 _ _ _ _)
      | (with_reducible exact ih1 _ _ _ _)
      | (with_reducible exact ih2 _ _ _)
      | (with_reducible exact foghornref18_Same.mono _ _ _)
      | (with_reducible exact LeO.refl _)
      | (with_reducible exact LeO.none _)
      | (with_reducible refine LeO.ite ?_ ?_)
      | (with_reducible refine LeO.bind ?_ (fun _ => ?_))
      | exact ih0 _ _ _ _
      | exact ih1 _ _ _ _
      | exact ih2 _ _ _
      | exact foghornref18_Same.mono _ _ _
      | exact LeO.none _
      | refine LeO.ite ?_ ?_
      | refine LeO.bind ?_ (fun _ => ?_)

/-! ### foghornref18_Product: function 82 -/
def foghornref18_Product.f (k : Nat) (l0 : List Int) (l1 : List Int) : Option (List Int × Int) := (foghornref18_may.f l0 l1).bind fun t753 => (if t753 = true then ((foghornref18_Trim.f k l0).bind fun t754 => ((foghornref18_Trim.f k l1).bind fun t757 => (if (t754.length : Int) > 0 then (if (t757.length : Int) > 0 then (if (wrap64 ((wrap64 ((t754.length : Int) + (t757.length : Int))) - 1)) > 512 then (some (([] : List Int), 1)) else ((foghornref18_product.f k t754 t757).bind fun t760 => (some (t760, 0)))) else ((foghornref18_product.f k t754 t757).bind fun t763 => (some (t763, 0)))) else ((foghornref18_product.f k t754 t757).bind fun t766 => (some (t766, 0)))))) else (some (([] : List Int), 1)))
theorem foghornref18_Product.mono : ∀ a0 a1 k, LeO (foghornref18_Product.f k a0 a1) (foghornref18_Product.f (k + 1) a0 a1) := by
  intro a0 a1 k
  unfold foghornref18_Product.f
  repeat' first
      | (with_reducible exact foghornref18_Trim.mono _ _)
      | (with_reducible exact foghornref18_product.mono _ _ _)
      | (with_reducible exact LeO.refl _)
      | (with_reducible exact LeO.none _)
      | (with_reducible refine LeO.ite ?_ ?_)
      | (with_reducible refine LeO.bind ?_ (fun _ => ?_))
      | exact foghornref18_Trim.mono _ _
      | exact foghornref18_product.mono _ _ _
      | exact LeO.none _
      | refine LeO.ite ?_ ?_
      | refine LeO.bind ?_ (fun _ => ?_)

/-! ### foghornref18_divide: function 98 -/
mutual
def foghornref18_divide.l0 : Nat → List Int → List Int → List Int → Option (List Int × List Int)
  | 0, _, _, _ => none
  | k + 1, x1, x6, x7 => if (x6.length : Int) ≥ (x1.length : Int) then (if 0 ≤ (wrap64 ((x6.length : Int) - 1)) then (if (wrap64 ((x6.length : Int) - 1)) < (x6.length : Int) then (if 0 ≤ (wrap64 ((x1.length : Int) - 1)) then (if (wrap64 ((x1.length : Int) - 1)) < (x1.length : Int) then ((foghornref18_Over.f k (rd x6 (wrap64 ((x6.length : Int) - 1))) (rd x1 (wrap64 ((x1.length : Int) - 1)))).bind fun bt780 => (if 0 ≤ (wrap64 ((x6.length : Int) - (x1.length : Int))) then (if (wrap64 ((x6.length : Int) - (x1.length : Int))) < (x7.length : Int) then (foghornref18_divide.l1 k x1 x6 (x7.set ((wrap64 ((x6.length : Int) - (x1.length : Int))) : Int).toNat bt780.1) (wrap64 ((x6.length : Int) - (x1.length : Int))) bt780.1 0) else (none)) else (none))) else (none)) else (none)) else (none)) else (none)) else ((foghornref18_Trim.f k x7).bind fun t775 => (some (t775, x6)))
def foghornref18_divide.l1 : Nat → List Int → List Int → List Int → Int → Int → Int → Option (List Int × List Int)
  | 0, _, _, _, _, _, _ => none
  | k + 1, x1, x6, x7, x8, x9, x11 => if x11 < (x1.length : Int) then (if 0 ≤ (wrap64 (x8 + x11)) then (if (wrap64 (x8 + x11)) < (x6.length : Int) then (if 0 ≤ x11 then ((foghornref18_Times.f k x9 (rd x1 x11)).bind fun t785 => (foghornref18_divide.l1 k x1 (x6.set ((wrap64 (x8 + x11)) : Int).toNat (Go.bits .xor .u8 (rd x6 (wrap64 (x8 + x11))) t785)) x7 x8 x9 (wrap64 (x11 + 1)))) else (none)) else (none)) else (none)) else ((foghornref18_Trim.f k x6).bind fun t787 => (foghornref18_divide.l0 k x1 t787 x7))
end
def foghornref18_divide.f (k : Nat) (l0 : List Int) (l1 : List Int) : Option (List Int × List Int) := (foghornref18_Trim.f k l0).bind fun t769 => (if (t769.length : Int) < (l1.length : Int) then (some (([] : List Int), t769)) else (if 0 ≤ (wrap64 ((wrap64 ((t769.length : Int) - (l1.length : Int))) + 1)) then (if (wrap64 ((wrap64 ((t769.length : Int) - (l1.length : Int))) + 1) : Int).toNat ≤ 281474976710656 then (foghornref18_divide.l0 k l1 t769 (List.replicate (wrap64 ((wrap64 ((t769.length : Int) - (l1.length : Int))) + 1) : Int).toNat 0)) else (none)) else (none)))
theorem foghornref18_divide.mono_l : ∀ k, (∀ y0 y1 y2, LeO (foghornref18_divide.l0 k y0 y1 y2) (foghornref18_divide.l0 (k + 1) y0 y1 y2)) ∧ (∀ y0 y1 y2 y3 y4 y5, LeO (foghornref18_divide.l1 k y0 y1 y2 y3 y4 y5) (foghornref18_divide.l1 (k + 1) y0 y1 y2 y3 y4 y5))
  | 0 => ⟨fun _ _ _ r h => by simp [foghornref18_divide.l0] at h, fun _ _ _ _ _ _ r h => by simp [foghornref18_divide.l1] at h⟩
  | k + 1 => by
    obtain ⟨ih0, ih1⟩ := foghornref18_divide.mono_l k
    refine ⟨?_, ?_⟩
    · intro y0 y1 y2
      unfold foghornref18_divide.l0
      repeat' first
      | (with_reducible exact ih0 _ _ _)
      | (with_reducible exact ih1 _ _ _ _ _ _)
      | (with_reducible exact foghornref18_Over.mono _ _ _)
      | (with_reducible exact foghornref18_Times.mono _ _ _)
      | (with_reducible exact foghornref18_Trim.mono _ _)
      | (with_reducible exact LeO.refl _)
      | (with_reducible exact LeO.none _)
      | (with_reducible refine LeO.ite ?_ ?_)
      | (with_reducible refine LeO.bind ?_ (fun _ => ?_))
      | exact ih0 _ _ _
      | exact ih1 _ _ _ _ _ _
      | exact foghornref18_Over.mono _ _ _
      | exact foghornref18_Times.mono _ _ _
      | exact foghornref18_Trim.mono _ _
      | exact LeO.none _
      | refine LeO.ite ?_ ?_
      | refine LeO.bind ?_ (fun _ => ?_)
    · intro y0 y1 y2 y3 y4 y5
      unfold foghornref18_divide.l1
      repeat' first
      | (with_reducible exact ih0 _ _ _)
      | (with_reducible exact ih1 _ _ _ _ _ _)
      | (with_reducible exact foghornref18_Over.mono _ _ _)
      | (with_reducible exact foghornref18_Times.mono _ _ _)
      | (with_reducible exact foghornref18_Trim.mono _ _)
      | (with_reducible exact LeO.refl _)
      | (with_reducible exact LeO.none _)
      | (with_reducible refine LeO.ite ?_ ?_)
      | (with_reducible refine LeO.bind ?_ (fun _ => ?_))
      | exact ih0 _ _ _
      | exact ih1 _ _ _ _ _ _
      | exact foghornref18_Over.mono _ _ _
      | exact foghornref18_Times.mono _ _ _
      | exact foghornref18_Trim.mono _ _
      | exact LeO.none _
      | refine LeO.ite ?_ ?_
      | refine LeO.bind ?_ (fun _ => ?_)
theorem foghornref18_divide.mono : ∀ a0 a1 k, LeO (foghornref18_divide.f k a0 a1) (foghornref18_divide.f (k + 1) a0 a1) := by
  intro a0 a1 k
  obtain ⟨ih0, ih1⟩ := foghornref18_divide.mono_l k
  unfold foghornref18_divide.f
  repeat' first
      | (with_reducible exact ih0 _ _ _)
      | (with_reducible exact ih1 _ _ _ _ _ _)
      | (with_reducible exact foghornref18_Over.mono _ _ _)
      | (with_reducible exact foghornref18_Times.mono _ _ _)
      | (with_reducible exact foghornref18_Trim.mono _ _)
      | (with_reducible exact LeO.refl _)
      | (with_reducible exact LeO.none _)
      | (with_reducible refine LeO.ite ?_ ?_)
      | (with_reducible refine LeO.bind ?_ (fun _ => ?_))
      | exact ih0 _ _ _
      | exact ih1 _ _ _ _ _ _
      | exact foghornref18_Over.mono _ _ _
      | exact foghornref18_Times.mono _ _ _
      | exact foghornref18_Trim.mono _ _
      | exact LeO.none _
      | refine LeO.ite ?_ ?_
      | refine LeO.bind ?_ (fun _ => ?_)
def foghornref18_divide.T7 : Bool × List (List Nat × List Nat) := (true, [([], []), ([], []), ([1], [1]), ([2], [2]), ([0, 3], [0, 3]), ([4], [4]), ([], []), ([], []), ([7], [7]), ([8], [8]), ([6, 9], [6, 9]), ([10], [10]), ([5, 11], [5, 11]), ([12], [12]), ([13], [13]), ([13], [13]), ([14, 12, 0, 1, 2, 3, 4, 5, 6, 7, 8, 9, 10, 11, 12, 13, 14], [14]), ([15, 16, 0, 1, 2, 3, 4, 5, 6, 7, 8, 9, 10, 11, 12, 13, 14, 15, 16], [15])])
def foghornref18_divide.B7 : List Nat := [0, 0, 2, 6, 15, 31, 0, 0, 128, 384, 960, 1984, 4095, 8191, 16383, 16383, 32767, 131071]
theorem foghornref18_divide.tab7 : rtab .any (opsOf Try.f98 7) = foghornref18_divide.T7 := by kernel_rfl
theorem foghornref18_divide.bits7 : waitsOk foghornref18_divide.T7.2 foghornref18_divide.B7 = true := by kernel_rfl
def foghornref18_divide.T12 : Bool × List (List Nat × List Nat) := (true, [([], []), ([], []), ([], []), ([1, 2], [1, 2]), ([], []), ([], []), ([], []), ([5, 6], [5, 6]), ([4, 7], [4, 7]), ([8], [8]), ([], []), ([], []), ([], []), ([11, 12], [11, 12]), ([13], [13]), ([10, 14], [10, 14]), ([9, 15], [9, 15]), ([0, 3, 0, 1, 2, 3, 4, 5, 6, 7, 8, 9, 10, 11, 12, 13, 14, 15, 16], [0, 3]), ([17, 16, 15, 0, 1, 2, 3, 4, 5, 6, 7, 8, 9, 10, 11, 12, 13, 14, 15, 16], [16, 17])])
def foghornref18_divide.B12 : List Nat := [0, 0, 0, 6, 0, 0, 0, 96, 240, 496, 0, 0, 0, 6144, 14336, 31744, 65520, 131071, 262143]
theorem foghornref18_divide.tab12 : rtab .any (opsOf Try.f98 12) = foghornref18_divide.T12 := by kernel_rfl
theorem foghornref18_divide.bits12 : waitsOk foghornref18_divide.T12.2 foghornref18_divide.B12 = true := by kernel_rfl

/-! ### foghornref18_Divide: function 83 -/
def foghornref18_Divide.f (k : Nat) (l0 : List Int) (l1 : List Int) : Option (List Int × List Int × Int) := (foghornref18_may.f l0 l1).bind fun t790 => (if t790 = true then ((foghornref18_Trim.f k l1).bind fun t791 => (if (t791.length : Int) = 0 then (some (([] : List Int), ([] : List Int), 6)) else ((foghornref18_divide.f k l0 t791).bind fun bt794 => (some (bt794.1, bt794.2, 0))))) else (some (([] : List Int), ([] : List Int), 1)))
theorem foghornref18_Divide.mono : ∀ a0 a1 k, LeO (foghornref18_Divide.f k a0 a1) (foghornref18_Divide.f (k + 1) a0 a1) := by
  intro a0 a1 k
  unfold foghornref18_Divide.f
  repeat' first
      | (with_reducible exact foghornref18_Trim.mono _ _)
      | (with_reducible exact foghornref18_divide.mono _ _ _)
      | (with_reducible exact LeO.refl _)
      | (with_reducible exact LeO.none _)
      | (with_reducible refine LeO.ite ?_ ?_)
      | (with_reducible refine LeO.bind ?_ (fun _ => ?_))
      | exact foghornref18_Trim.mono _ _
      | exact foghornref18_divide.mono _ _ _
      | exact LeO.none _
      | refine LeO.ite ?_ ?_
      | refine LeO.bind ?_ (fun _ => ?_)

end Go.Proofs.Ytmdeldiocaofkaa.Q
