-- Printed by myprint.py (ours) over the kit's printer, out of the translation.
import Derived.Test.YthfcafllcgjepaaSliceDecidesK0
namespace Go.Proofs.Ythfcafllcgjepaa.Q
open Go.RowKit Go.Proofs.YthfcafllcgjepaaW.PrintWords Go.Proofs.YthfcafllcgjepaaW.PrintLast Go.Proofs.YthfcafllcgjepaaW.PrintMore
attribute [local go_sem] ArrW.ptrOf_slice unary_neg_float unary_neg_complex run_store_float run_store_complex max2_int min2_int max_two min_two max_three min_three max_four min_four   -- for this text's walks alone
set_option linter.unusedVariables false
set_option linter.unusedSimpArgs false

/-! ### bits_Ungray: function 169 -/
mutual
def bits_Ungray.j0 : Nat → Int → Bool → Option (Int × Int)
  | 0, _, _ => none
  | k + 1, x0, x10 => if x10 = true then (some (0, 1)) else (bits_Ungray.l0 k x0 1)
def bits_Ungray.l0 : Nat → Int → Int → Option (Int × Int)
  | 0, _, _ => none
  | k + 1, x0, x4 => if x4 < 16 then (if 0 ≤ x4 then (bits_Ungray.l0 k (Go.bits .xor .i64 x0 (shr .i64 x0 x4)) (wrap64 (x4 * 2))) else (none)) else (some (x0, 0))
end
def bits_Ungray.f (k : Nat) (a0 : Int) : Option (Int × Int) := if a0 < 0 then (bits_Ungray.j0 k a0 true) else (bits_Ungray.j0 k a0 (decide (a0 ≥ 65536)))
theorem bits_Ungray.mono_l : ∀ k, (∀ y0 y1, LeO (bits_Ungray.j0 k y0 y1) (bits_Ungray.j0 (k + 1) y0 y1)) ∧ (∀ y0 y1, LeO (bits_Ungray.l0 k y0 y1) (bits_Ungray.l0 (k + 1) y0 y1))
  | 0 => ⟨fun _ _ r h => by simp [bits_Ungray.j0] at h, fun _ _ r h => by simp [bits_Ungray.l0] at h⟩
  | k + 1 => by
    obtain ⟨ih0, ih1⟩ := bits_Ungray.mono_l k
    refine ⟨?_, ?_⟩
    · intro y0 y1
      unfold bits_Ungray.j0
      repeat' first
      | (with_reducible exact ih0 _ _)
      | (with_reducible exact ih1 _ _)
      | (with_reducible exact LeO.refl _)
      | (with_reducible exact LeO.none _)
      | (with_reducible refine LeO.ite ?_ ?_)
      | (with_reducible refine LeO.bind ?_ (fun _ => ?_))
      | exact ih0 _ _
      | exact ih1 _ _
      | exact LeO.none _
      | refine LeO.ite ?_ ?_
      | refine LeO.bind ?_ (fun _ => ?_)
    · intro y0 y1
      unfold bits_Ungray.l0
      repeat' first
      | (with_reducible exact ih0 _ _)
      | (with_reducible exact ih1 _ _)
      | (with_reducible exact LeO.refl _)
      | (with_reducible exact LeO.none _)
      | (with_reducible refine LeO.ite ?_ ?_)
      | (with_reducible refine LeO.bind ?_ (fun _ => ?_))
      | exact ih0 _ _
      | exact ih1 _ _
      | exact LeO.none _
      | refine LeO.ite ?_ ?_
      | refine LeO.bind ?_ (fun _ => ?_)
theorem bits_Ungray.mono : ∀ a0 k, LeO (bits_Ungray.f k a0) (bits_Ungray.f (k + 1) a0) := by
  intro a0 k
  obtain ⟨ih0, ih1⟩ := bits_Ungray.mono_l k
  unfold bits_Ungray.f
  repeat' first
      | (with_reducible exact ih0 _ _)
      | (with_reducible exact ih1 _ _)
      | (with_reducible exact LeO.refl _)
      | (with_reducible exact LeO.none _)
      | (with_reducible refine LeO.ite ?_ ?_)
      | (with_reducible refine LeO.bind ?_ (fun _ => ?_))
      | exact ih0 _ _
      | exact ih1 _ _
      | exact LeO.none _
      | refine LeO.ite ?_ ?_
      | refine LeO.bind ?_ (fun _ => ?_)

/-! ### foghornref11_step: function 142 -/
def foghornref11_step.f (a0 : Nat) : Option (Bool) := if (FloatKind.f64.format.order a0 13830554455654793216 == some .gt || FloatKind.f64.format.order a0 13830554455654793216 == some .eq) = true then (if (FloatKind.f64.format.order a0 4607182418800017408 == some .lt || FloatKind.f64.format.order a0 4607182418800017408 == some .eq) = true then ((floatBits .mul .f64 a0 4634204016564240384).bind fun t133 => ((floatToIntVal .f64 t133 .i64).bind fun t134 => (some (FloatKind.f64.format.order (floatOfInt .f64 t134) t133 == some .eq)))) else (some false)) else (some false)

/-! ### foghornref11_size: function 143 -/
def foghornref11_size.f (a0 : Nat) : Option (Nat) := if (FloatKind.f64.format.order a0 0 == some .lt) = true then (some (Op.negFloat .f64 a0)) else (some a0)

/-! ### foghornref11_Taps: function 102 -/
mutual
def foghornref11_Taps.j0 : Nat → List (Nat × Nat) → Bool → Option (Bool)
  | 0, _, _ => none
  | k + 1, x0, x12 => if x12 = true then (some false) else (foghornref11_Taps.l0 k x0 0 0)
def foghornref11_Taps.l0 : Nat → List (Nat × Nat) → Nat → Int → Option (Bool)
  | 0, _, _, _ => none
  | k + 1, x0, x3, x4 => if x4 < (x0.length : Int) then (if 0 ≤ x4 then ((foghornref11_step.f ((rdOf (0, 0) x0 x4).1)).bind fun t136 => (if t136 = true then ((foghornref11_step.f ((rdOf (0, 0) x0 x4).2)).bind fun t138 => (foghornref11_Taps.j2 k x0 x3 x4 (!t138))) else (foghornref11_Taps.j2 k x0 x3 x4 true))) else (none)) else (some (FloatKind.f64.format.order x3 4616189618054758400 == some .lt || FloatKind.f64.format.order x3 4616189618054758400 == some .eq))
def foghornref11_Taps.j2 : Nat → List (Nat × Nat) → Nat → Int → Bool → Option (Bool)
  | 0, _, _, _, _ => none
  | k + 1, x0, x3, x4, x34 => if x34 = true then (some false) else (if 0 ≤ x4 then (if x4 < (x0.length : Int) then ((foghornref11_size.f ((rdOf (0, 0) x0 x4).1)).bind fun t140 => ((floatBits .add .f64 x3 t140).bind fun t141 => ((foghornref11_size.f ((rdOf (0, 0) x0 x4).2)).bind fun t143 => ((floatBits .add .f64 t141 t143).bind fun t144 => (foghornref11_Taps.l0 k x0 t144 (wrap64 (x4 + 1))))))) else (none)) else (none))
end
def foghornref11_Taps.f (k : Nat) (l0 : List (Nat × Nat)) : Option (Bool) := if (l0.length : Int) < 1 then (foghornref11_Taps.j0 k l0 true) else (foghornref11_Taps.j0 k l0 (decide ((l0.length : Int) > 64)))
theorem foghornref11_Taps.mono_l : ∀ k, (∀ y0 y1, LeO (foghornref11_Taps.j0 k y0 y1) (foghornref11_Taps.j0 (k + 1) y0 y1)) ∧ (∀ y0 y1 y2, LeO (foghornref11_Taps.l0 k y0 y1 y2) (foghornref11_Taps.l0 (k + 1) y0 y1 y2)) ∧ (∀ y0 y1 y2 y3, LeO (foghornref11_Taps.j2 k y0 y1 y2 y3) (foghornref11_Taps.j2 (k + 1) y0 y1 y2 y3))
  | 0 => ⟨fun _ _ r h => by simp [foghornref11_Taps.j0] at h, fun _ _ _ r h => by simp [foghornref11_Taps.l0] at h, fun _ _ _ _ r h => by simp [foghornref11_Taps.j2] at h⟩
  | k + 1 => by
    obtain ⟨ih0, ih1, ih2⟩ := foghornref11_Taps.mono_l k
    refine ⟨?_, ?_, ?_⟩
    · intro y0 y1
      unfold foghornref11_Taps.j0
      repeat' first
      | (with_reducible exact ih0 _ _)
      | (with_reducible exact ih1 _ _ _)
      | (with_reducible exact ih2 _ _ _ _)
      | (with_reducible exact LeO.refl _)
      | (with_reducible exact LeO.none _)
      | (with_reducible refine LeO.ite ?_ ?_)
      | (with_reducible refine LeO.bind ?_ (fun _ => ?_))
      | exact ih0 _ _
      | exact ih1 _ _ _
      | exact ih2 _ _ _ _
      | exact LeO.none _
      | refine LeO.ite ?_ ?_
      | refine LeO.bind ?_ (fun _ => ?_)
    · intro y0 y1 y2
      unfold foghornref11_Taps.l0
      repeat' first
      | (with_reducible exact ih0 _ _)
      | (with_reducible exact ih1 _ _ _)
      | (with_reducible exact ih2 _ _ _ _)
      | (with_reducible exact LeO.refl _)
      | (with_reducible exact LeO.none _)
      | (with_reducible refine LeO.ite ?_ ?_)
      | (with_reducible refine LeO.bind ?_ (fun _ => ?_))
      | exact ih0 _ _
      | exact ih1 _ _ _
      | exact ih2 _ _ _ _
      | exact LeO.none _
      | refine LeO.ite ?_ ?_
      | refine LeO.bind ?_ (fun _ => ?_)
    · intro y0 y1 y2 y3
      unfold foghornref11_Taps.j2
      repeat' first
      | (with_reducible exact ih0 _ _)
      | (with_reducible exact ih1 _ _ _)
      | (with_reducible exact ih2 _ _ _ _)
      | (with_reducible exact LeO.refl _)
      | (with_reducible exact LeO.none _)
      | (with_reducible refine LeO.ite ?_ ?_)
      | (with_reducible refine LeO.bind ?_ (fun _ => ?_))
      | exact ih0 _ _
      | exact ih1 _ _ _
      | exact ih2 _ _ _ _
      | exact LeO.none _
      | refine LeO.ite ?_ ?_
      | refine LeO.bind ?_ (fun _ => ?_)
theorem foghornref11_Taps.mono : ∀ a0 k, LeO (foghornref11_Taps.f k a0) (foghornref11_Taps.f (k + 1) a0) := by
  intro a0 k
  obtain ⟨ih0, ih1, ih2⟩ := foghornref11_Taps.mono_l k
  unfold foghornref11_Taps.f
  repeat' first
      | (with_reducible exact ih0 _ _)
      | (with_reducible exact ih1 _ _ _)
      | (with_reducible exact ih2 _ _ _ _)
      | (with_reducible exact LeO.refl _)
      | (with_reducible exact LeO.none _)
      | (with_reducible refine LeO.ite ?_ ?_)
      | (with_reducible refine LeO.bind ?_ (fun _ => ?_))
      | exact ih0 _ _
      | exact ih1 _ _ _
      | exact ih2 _ _ _ _
      | exact LeO.none _
      | refine LeO.ite ?_ ?_
      | refine LeO.bind ?_ (fun _ => ?_)

/-! ### foghornref02_On: function 103 -/
def foghornref02_On.f (a0 : Nat) : Option (Bool) := if (FloatKind.f64.format.order a0 13875590451928498176 == some .gt || FloatKind.f64.format.order a0 13875590451928498176 == some .eq) = true then (if ((FloatKind.f64.format.order a0 4652218415073722368 == some .lt || FloatKind.f64.format.order a0 4652218415073722368 == some .eq) = true) then ((floatBits .mul .f64 a0 4661225614328463360).bind fun t145 => ((floatToIntVal .f64 t145 .i64).bind fun t146 => (some (FloatKind.f64.format.order (floatOfInt .f64 t146) t145 == some .eq)))) else (some false)) else (some false)

/-! ### math_Abs: function 131 -/
def math_Abs.f (a0 : Nat) : Option (Nat) := some ((Go.bits .andNot .u64 (a0 : Int) 9223372036854775808).toNat)

/-! ### math_IsNaN: function 113 -/
def math_IsNaN.f (a0 : Nat) : Option (Bool) := some (FloatKind.f64.format.order a0 a0 != some .eq)

/-! ### math_IsInf: function 153 -/
def math_IsInf.f (a0 : Nat) (a1 : Int) : Option (Bool) := if a1 = 0 then ((math_Abs.f a0).bind fun t169 => (some (FloatKind.f64.format.order t169 9218868437227405311 == some .gt))) else (if a1 < 0 then (some (FloatKind.f64.format.order (Op.negFloat .f64 a0) 9218868437227405311 == some .gt)) else (some (FloatKind.f64.format.order a0 9218868437227405311 == some .gt)))

/-! ### math_Floor: function 146 -/
def math_Floor.f (a0 : Nat) : Option (Nat) := (integF .down a0).bind fun t183 => (some t183)

/-! ### feedback_step: function 144 -/
def feedback_step.f (a0 : Nat) : Option (Bool) := (math_Abs.f a0).bind fun t184 => (if (FloatKind.f64.format.order t184 4607182418800017408 == some .lt || FloatKind.f64.format.order t184 4607182418800017408 == some .eq) = true then ((floatBits .mul .f64 a0 4634204016564240384).bind fun t185 => ((math_Floor.f t185).bind fun t186 => (some (FloatKind.f64.format.order t186 t185 == some .eq)))) else (some false))

/-! ### feedback_taps: function 105 -/
mutual
def feedback_taps.l0 : Nat → List (Nat × Nat) → Nat → List (Nat × Nat) → Int → Int → Option (Bool)
  | 0, _, _, _, _, _ => none
  | k + 1, x0, x3, x6, x7, x8 => if x8 < x7 then (if 0 ≤ x8 then (if x8 < (x6.length : Int) then ((feedback_step.f ((rdOf (0, 0) x6 x8).1)).bind fun t188 => (if t188 = true then ((feedback_step.f ((rdOf (0, 0) x6 x8).2)).bind fun t189 => (feedback_taps.j1 k x0 x3 (rdOf (0, 0) x6 x8) x6 x7 x8 (!t189))) else (feedback_taps.j1 k x0 x3 (rdOf (0, 0) x6 x8) x6 x7 x8 true))) else (none)) else (none)) else (if (x0.length : Int) > 0 then (if (x0.length : Int) ≤ 64 then (some (FloatKind.f64.format.order x3 4616189618054758400 == some .lt || FloatKind.f64.format.order x3 4616189618054758400 == some .eq)) else (some false)) else (some false))
def feedback_taps.j1 : Nat → List (Nat × Nat) → Nat → (Nat × Nat) → List (Nat × Nat) → Int → Int → Bool → Option (Bool)
  | 0, _, _, _, _, _, _, _ => none
  | k + 1, x0, x3, x5, x6, x7, x8, x21 => if x21 = true then (some false) else ((math_Abs.f x5.1).bind fun t190 => ((math_Abs.f x5.2).bind fun t191 => ((floatBits .add .f64 t190 t191).bind fun t192 => ((floatBits .add .f64 x3 t192).bind fun t193 => (feedback_taps.l0 k x0 t193 x6 x7 (wrap64 (x8 + 1)))))))
end
def feedback_taps.f (k : Nat) (l0 : List (Nat × Nat)) : Option (Bool) := feedback_taps.l0 k l0 0 l0 (l0.length : Int) 0
theorem feedback_taps.mono_l : ∀ k, (∀ y0 y1 y2 y3 y4, LeO (feedback_taps.l0 k y0 y1 y2 y3 y4) (feedback_taps.l0 (k + 1) y0 y1 y2 y3 y4)) ∧ (∀ y0 y1 y2 y3 y4 y5 y6, LeO (feedback_taps.j1 k y0 y1 y2 y3 y4 y5 y6) (feedback_taps.j1 (k + 1) y0 y1 y2 y3 y4 y5 y6))
  | 0 => ⟨fun _ _ _ _ _ r h => by simp [feedback_taps.l0] at h, fun _ _ _ _ _ _ _ r h => by simp [feedback_taps.j1] at h⟩
  | k + 1 => by
    obtain ⟨ih0, ih1⟩ := feedback_taps.mono_l k
    refine ⟨?_, ?_⟩
    · intro y0 y1 y2 y3 y4
      unfold feedback_taps.l0
      repeat' first
      | (with_reducible exact ih0 _ _ _ _ _)
      | (with_reducible exact ih1 _ _ _ _ _ _ _)
      | (with_reducible exact LeO.refl _)
      | (with_reducible exact LeO.none _)
      | (with_reducible refine LeO.ite ?_ ?_)
      | (with_reducible refine LeO.bind ?_ (fun _ => ?_))
      | exact ih0 _ _ _ _ _
      | exact ih1 _ _ _ _ _ _ _
      | exact LeO.none _
      | refine LeO.ite ?_ ?_
      | refine LeO.bind ?_ (fun _ => ?_)
    · intro y0 y1 y2 y3 y4 y5 y6
      unfold feedback_taps.j1
      repeat' first
      | (with_reducible exact ih0 _ _ _ _ _)
      | (with_reducible exact ih1 _ _ _ _ _ _ _)
      | (with_reducible exact LeO.refl _)
      | (with_reducible exact LeO.none _)
      | (with_reducible refine LeO.ite ?_ ?_)
      | (with_reducible refine LeO.bind ?_ (fun _ => ?_))
      | exact ih0 _ _ _ _ _
      | exact ih1 _ _ _ _ _ _ _
      | exact LeO.none _
      | refine LeO.ite ?_ ?_
      | refine LeO.bind ?_ (fun _ => ?_)
theorem feedback_taps.mono : ∀ a0 k, LeO (feedback_taps.f k a0) (feedback_taps.f (k + 1) a0) := by
  intro a0 k
  obtain ⟨ih0, ih1⟩ := feedback_taps.mono_l k
  unfold feedback_taps.f
  repeat' first
      | (with_reducible exact ih0 _ _ _ _ _)
      | (with_reducible exact ih1 _ _ _ _ _ _ _)
      | (with_reducible exact LeO.refl _)
      | (with_reducible exact LeO.none _)
      | (with_reducible refine LeO.ite ?_ ?_)
      | (with_reducible refine LeO.bind ?_ (fun _ => ?_))
      | exact ih0 _ _ _ _ _
      | exact ih1 _ _ _ _ _ _ _
      | exact LeO.none _
      | refine LeO.ite ?_ ?_
      | refine LeO.bind ?_ (fun _ => ?_)

/-! ### grid_within: function 145 -/
def grid_within.f (a0 : Nat) : Option (Bool) := if (FloatKind.f64.format.order a0 13875590451928498176 == some .gt || FloatKind.f64.format.order a0 13875590451928498176 == some .eq) = true then (some (FloatKind.f64.format.order a0 4652218415073722368 == some .lt || FloatKind.f64.format.order a0 4652218415073722368 == some .eq)) else (some false)

/-! ### grid_On: function 106 -/
def grid_On.f (a0 : Nat) : Option (Bool) := (grid_within.f a0).bind fun t194 => (if t194 = true then ((floatBits .mul .f64 a0 4661225614328463360).bind fun t195 => ((math_Floor.f t195).bind fun t196 => (some (FloatKind.f64.format.order t196 t195 == some .eq)))) else (some false))

/-! ### points_of: function 127 -/
def pts_axis (edge word : Int) : Option Nat := (bits_Ungray.f 9 word).bind fun p => some (floatOfInt .f64 (wrap64 (wrap64 (2 * p.1) - edge)))
def pts_high (edge most a : Int) : Int := if most < (if a < wrap64 (-a) then wrap64 (-a) else a) then most else edge
def pts_crf (edge most : Int) : Nat → Int → Int → Option (Nat × Nat)
  | 0, _, _ => none
  | k + 1, a, l => if l ≤ pts_high edge most a then some (floatOfInt .f64 a, floatOfInt .f64 (wrap64 (wrap64 (2 * l) - pts_high edge most a))) else pts_crf edge most k (wrap64 (a + 2)) (wrap64 (l - wrap64 (pts_high edge most a + 1)))
def pts_sqf (d m edge label : Int) : Option (Nat × Nat) := (pts_axis edge (label / d)).bind fun p => (pts_axis edge (Go.bits .and .i64 label m)).bind fun q => some (p, q)
def pts_crF (edge most label : Int) : Option (Nat × Nat) := pts_crf edge most 40 (wrap64 (-edge)) label
def pts_spec (size : Int) : Option (Int × Int × (Int → Option (Nat × Nat))) :=
  if size = 4 then some (2, 1, pts_sqf 2 1 1) else if size = 16 then some (4, 3, pts_sqf 4 3 3) else if size = 32 then some (5, 5, pts_crF 5 3) else if size = 64 then some (6, 7, pts_sqf 8 7 7) else if size = 128 then some (7, 11, pts_crF 11 7) else if size = 256 then some (8, 15, pts_sqf 16 15 15) else none
def points_of.f (a0 : Int) : Option (Int) := none

/-! ### points_All: function 56 -/
def pts_all (F : Int → Option (Nat × Nat)) : Nat → Option (List (Nat × Nat))
  | 0 => some []
  | n + 1 => (pts_all F n).bind fun l => (F (n : Int)).bind fun r => some (l ++ [r])
def points_All.f (a0 : Int) : Option (List (Nat × Nat) × Int) := match pts_spec a0 with
  | none => some ([], 1)
  | some x => (pts_all x.2.2 a0.toNat).bind fun l => some (l, 0)

/-! ### math_Inf: function 76 -/
def math_Inf.f (a0 : Int) : Option (Nat) := if a0 ≥ 0 then (some 9218868437227405312) else (some 18442240474082181120)

/-! ### foghornlaw05_number: function 45 -/
def foghornlaw05_number.f (a0 : Int) (a1 : Int) : Option ((Nat × Nat)) := some (a0.toNat, a1.toNat)

/-! ### foghornref05_Axis: function 46 -/
mutual
def foghornref05_Axis.j0 : Nat → Nat → Int → Bool → Option (Int × Int)
  | 0, _, _, _ => none
  | k + 1, x0, x1, x22 => if x22 = true then (some (0, 1)) else (foghornref05_Axis.l0 k x0 x1 (wrap64 (-x1)))
def foghornref05_Axis.l0 : Nat → Nat → Int → Int → Option (Int × Int)
  | 0, _, _, _ => none
  | k + 1, x0, x1, x6 => if x6 < x1 then (if (FloatKind.f64.format.order x0 (floatOfInt .f64 (wrap64 (x6 + 1))) == some .gt) = true then (foghornref05_Axis.l0 k x0 x1 (wrap64 (x6 + 2))) else (some (x6, 0))) else (some (x6, 0))
end
def foghornref05_Axis.f (k : Nat) (a0 : Nat) (a1 : Int) : Option (Int × Int) := if a1 < 1 then (foghornref05_Axis.j0 k a0 a1 true) else (if a1 > 15 then (foghornref05_Axis.j0 k a0 a1 true) else (if (Int.tmod a1 2) = 0 then (foghornref05_Axis.j0 k a0 a1 true) else (foghornref05_Axis.j0 k a0 a1 (FloatKind.f64.format.order a0 a0 != some .eq))))
theorem foghornref05_Axis.mono_l : ∀ k, (∀ y0 y1 y2, LeO (foghornref05_Axis.j0 k y0 y1 y2) (foghornref05_Axis.j0 (k + 1) y0 y1 y2)) ∧ (∀ y0 y1 y2, LeO (foghornref05_Axis.l0 k y0 y1 y2) (foghornref05_Axis.l0 (k + 1) y0 y1 y2))
  | 0 => ⟨fun _ _ _ r h => by simp [foghornref05_Axis.j0] at h, fun _ _ _ r h => by simp [foghornref05_Axis.l0] at h⟩
  | k + 1 => by
    obtain ⟨ih0, ih1⟩ := foghornref05_Axis.mono_l k
    refine ⟨?_, ?_⟩
    · intro y0 y1 y2
      unfold foghornref05_Axis.j0
      repeat' first
      | (with_reducible exact ih0 _ _ _)
      | (with_reducible exact ih1 _ _ _)
      | (with_reducible exact LeO.refl _)
      | (with_reducible exact LeO.none _)
      | (with_reducible refine LeO.ite ?_ ?_)
      | (with_reducible refine LeO.bind ?_ (fun _ => ?_))
      | exact ih0 _ _ _
      | exact ih1 _ _ _
      | exact LeO.none _
      | refine LeO.ite ?_ ?_
      | refine LeO.bind ?_ (fun _ => ?_)
    · intro y0 y1 y2
      unfold foghornref05_Axis.l0
      repeat' first
      | (with_reducible exact ih0 _ _ _)
      | (with_reducible exact ih1 _ _ _)
      | (with_reducible exact LeO.refl _)
      | (with_reducible exact LeO.none _)
      | (with_reducible refine LeO.ite ?_ ?_)
      | (with_reducible refine LeO.bind ?_ (fun _ => ?_))
      | exact ih0 _ _ _
      | exact ih1 _ _ _
      | exact LeO.none _
      | refine LeO.ite ?_ ?_
      | refine LeO.bind ?_ (fun _ => ?_)
theorem foghornref05_Axis.mono : ∀ a0 a1 k, LeO (foghornref05_Axis.f k a0 a1) (foghornref05_Axis.f (k + 1) a0 a1) := by
  intro a0 a1 k
  obtain ⟨ih0, ih1⟩ := foghornref05_Axis.mono_l k
  unfold foghornref05_Axis.f
  repeat' first
      | (with_reducible exact ih0 _ _ _)
      | (with_reducible exact ih1 _ _ _)
      | (with_reducible exact LeO.refl _)
      | (with_reducible exact LeO.none _)
      | (with_reducible refine LeO.ite ?_ ?_)
      | (with_reducible refine LeO.bind ?_ (fun _ => ?_))
      | exact ih0 _ _ _
      | exact ih1 _ _ _
      | exact LeO.none _
      | refine LeO.ite ?_ ?_
      | refine LeO.bind ?_ (fun _ => ?_)

/-! ### math_Max: function 114 -/
def math_Max.f (a0 : Nat) (a1 : Nat) : Option (Nat) := some (pickF false .gt a0 a1)

/-! ### math_Min: function 115 -/
def math_Min.f (a0 : Nat) (a1 : Nat) : Option (Nat) := some (pickF true .lt a0 a1)

/-! ### math_Ceil: function 116 -/
def math_Ceil.f (a0 : Nat) : Option (Nat) := (integF .up a0).bind fun t457 => (some t457)

/-! ### slice_Axis: function 47 -/
def slice_Axis.j0 : Nat → Nat → Int → Bool → Option (Int × Int)
  | 0, _, _, _ => none
  | k + 1, x0, x1, x21 => if x21 = true then (some (0, 1)) else ((math_Min.f x0 (floatOfInt .f64 x1)).bind fun t459 => ((math_Max.f (Op.negFloat .f64 (floatOfInt .f64 x1)) t459).bind fun t460 => ((math_Ceil.f t460).bind fun t461 => ((floatToIntVal .f64 t461 .i64).bind fun t462 => (if (Int.tmod t462 2) = 0 then (some (mx (wrap64 (t462 - 1)) (wrap64 (-x1)), 0)) else (some (mx t462 (wrap64 (-x1)), 0)))))))
def slice_Axis.f (k : Nat) (a0 : Nat) (a1 : Int) : Option (Int × Int) := if a1 < 1 then (slice_Axis.j0 k a0 a1 true) else (if a1 > 15 then (slice_Axis.j0 k a0 a1 true) else (if (Int.tmod a1 2) = 0 then (slice_Axis.j0 k a0 a1 true) else ((math_IsNaN.f a0).bind fun t458 => (slice_Axis.j0 k a0 a1 t458))))
theorem slice_Axis.mono_l : ∀ k, (∀ y0 y1 y2, LeO (slice_Axis.j0 k y0 y1 y2) (slice_Axis.j0 (k + 1) y0 y1 y2))
  | 0 => fun _ _ _ r h => by simp [slice_Axis.j0] at h
  | k + 1 => by
    have ih0 := slice_Axis.mono_l k
    · intro y0 y1 y2
      unfold slice_Axis.j0
      repeat' first
      | (with_reducible exact ih0 _ _ _)
      | (with_reducible exact LeO.refl _)
      | (with_reducible exact LeO.none _)
      | (with_reducible refine LeO.ite ?_ ?_)
      | (with_reducible refine LeO.bind ?_ (fun _ => ?_))
      | exact ih0 _ _ _
      | exact LeO.none _
      | refine LeO.ite ?_ ?_
      | refine LeO.bind ?_ (fun _ => ?_)
theorem slice_Axis.mono : ∀ a0 a1 k, LeO (slice_Axis.f k a0 a1) (slice_Axis.f (k + 1) a0 a1) := by
  intro a0 a1 k
  have ih0 := slice_Axis.mono_l k
  unfold slice_Axis.f
  repeat' first
      | (with_reducible exact ih0 _ _ _)
      | (with_reducible exact LeO.refl _)
      | (with_reducible exact LeO.none _)
      | (with_reducible refine LeO.ite ?_ ?_)
      | (with_reducible refine LeO.bind ?_ (fun _ => ?_))
      | exact ih0 _ _ _
      | exact LeO.none _
      | refine LeO.ite ?_ ?_
      | refine LeO.bind ?_ (fun _ => ?_)

/-! ### foghornref04_Edge: function 65 -/
def foghornref04_Edge.f (a0 : Int) : Option (Int × Int) := if a0 = 4 then (some (1, 0)) else (if a0 = 16 then (some (3, 0)) else (if a0 = 32 then (some (5, 0)) else (if a0 = 64 then (some (7, 0)) else (if a0 = 128 then (some (11, 0)) else (if a0 = 256 then (some (15, 0)) else (some (0, 1)))))))

/-! ### foghornref05_cut: function 117 -/
def foghornref05_cut.f (a0 : Nat) (a1 : Int) : Option (Nat) := if (FloatKind.f64.format.order a0 (Op.negFloat .f64 (floatOfInt .f64 a1)) == some .lt) = true then (some (Op.negFloat .f64 (floatOfInt .f64 a1))) else (if (FloatKind.f64.format.order a0 (floatOfInt .f64 a1) == some .gt) = true then (some (floatOfInt .f64 a1)) else (some a0))

/-! ### foghornref05_Cut: function 48 -/
def foghornref05_Cut.j0 : Nat → (Nat × Nat) → Int → Bool → Option ((Nat × Nat) × Int)
  | 0, _, _, _ => none
  | k + 1, x1, x6, x28 => if x28 = true then (some ((0, 0), 1)) else ((foghornref05_cut.f x1.1 x6).bind fun t465 => ((foghornref05_cut.f x1.2 x6).bind fun t466 => (some ((t465, t466), 0))))
def foghornref05_Cut.f (k : Nat) (a0 : Int) (a1 : (Nat × Nat)) : Option ((Nat × Nat) × Int) := (foghornref04_Edge.f a0).bind fun bt463 => (if bt463.2 = 0 then (if (FloatKind.f64.format.order a1.1 a1.1 != some .eq) = true then (foghornref05_Cut.j0 k a1 bt463.1 true) else (foghornref05_Cut.j0 k a1 bt463.1 (FloatKind.f64.format.order a1.2 a1.2 != some .eq))) else (foghornref05_Cut.j0 k a1 bt463.1 true))
theorem foghornref05_Cut.mono_l : ∀ k, (∀ y0 y1 y2, LeO (foghornref05_Cut.j0 k y0 y1 y2) (foghornref05_Cut.j0 (k + 1) y0 y1 y2))
  | 0 => fun _ _ _ r h => by simp [foghornref05_Cut.j0] at h
  | k + 1 => by
    have ih0 := foghornref05_Cut.mono_l k
    · intro y0 y1 y2
      unfold foghornref05_Cut.j0
      repeat' first
      | (with_reducible exact ih0 _ _ _)
      | (with_reducible exact LeO.refl _)
      | (with_reducible exact LeO.none _)
      | (with_reducible refine LeO.ite ?_ ?_)
      | (with_reducible refine LeO.bind ?_ (fun _ => ?_))
      | exact ih0 _ _ _
      | exact LeO.none _
      | refine LeO.ite ?_ ?_
      | refine LeO.bind ?_ (fun _ => ?_)
theorem foghornref05_Cut.mono : ∀ a0 a1 k, LeO (foghornref05_Cut.f k a0 a1) (foghornref05_Cut.f (k + 1) a0 a1) := by
  intro a0 a1 k
  have ih0 := foghornref05_Cut.mono_l k
  unfold foghornref05_Cut.f
  repeat' first
      | (with_reducible exact ih0 _ _ _)
      | (with_reducible exact LeO.refl _)
      | (with_reducible exact LeO.none _)
      | (with_reducible refine LeO.ite ?_ ?_)
      | (with_reducible refine LeO.bind ?_ (fun _ => ?_))
      | exact ih0 _ _ _
      | exact LeO.none _
      | refine LeO.ite ?_ ?_
      | refine LeO.bind ?_ (fun _ => ?_)

/-! ### points_Edge: function 118 -/
def points_Edge.f (a0 : Int) : Option (Int × Int) := match pts_spec a0 with
  | none => some (0, 1)
  | some x => some (x.2.1, 0)

/-! ### slice_nan: function 119 -/
def slice_nan.f (a0 : (Nat × Nat)) : Option (Bool) := (math_IsNaN.f a0.1).bind fun t467 => (if t467 = true then (some true) else ((math_IsNaN.f a0.2).bind fun t468 => (some t468)))

/-! ### slice_cut: function 120 -/
def slice_cut.f (a0 : (Nat × Nat)) (a1 : Int) : Option ((Nat × Nat)) := (math_Min.f a0.1 (floatOfInt .f64 a1)).bind fun t469 => ((math_Max.f (Op.negFloat .f64 (floatOfInt .f64 a1)) t469).bind fun t470 => ((math_Min.f a0.2 (floatOfInt .f64 a1)).bind fun t471 => ((math_Max.f (Op.negFloat .f64 (floatOfInt .f64 a1)) t471).bind fun t472 => (some (t470, t472)))))

/-! ### slice_Cut: function 49 -/
def slice_Cut.f (a0 : Int) (a1 : (Nat × Nat)) : Option ((Nat × Nat) × Int) := (points_Edge.f a0).bind fun bt473 => (if bt473.2 = 0 then ((slice_nan.f a1).bind fun t475 => (if t475 = true then (some ((0, 0), 1)) else ((slice_cut.f a1 bt473.1).bind fun t476 => (some (t476, 0))))) else (some ((0, 0), 1)))

/-! ### foghornref04_size: function 172 -/
def foghornref04_size.f (a0 : Int) : Option (Int) := if a0 < 0 then (some (wrap64 (-a0))) else (some a0)

/-! ### foghornref04_in: function 161 -/
mutual
def foghornref04_in.j0 : Nat → Int → Bool → Int → Int → Option (Bool)
  | 0, _, _, _, _ => none
  | k + 1, x0, x39, x478000, x478001 => if x39 = true then (some false) else (if x0 = 32 then ((foghornref04_size.f x478000).bind fun t482 => (if t482 = 5 then ((foghornref04_size.f x478001).bind fun t483 => (foghornref04_in.j1 k x0 (t483 == 5) x478000 x478001)) else (foghornref04_in.j1 k x0 false x478000 x478001))) else (foghornref04_in.j1 k x0 false x478000 x478001))
def foghornref04_in.j1 : Nat → Int → Bool → Int → Int → Option (Bool)
  | 0, _, _, _, _ => none
  | k + 1, x0, x53, x478000, x478001 => if x53 = true then (some false) else (if x0 = 128 then ((foghornref04_size.f x478000).bind fun t484 => (if t484 ≤ 7 then (some true) else ((foghornref04_size.f x478001).bind fun t485 => (some (decide (t485 ≤ 7)))))) else (some true))
end
def foghornref04_in.f (k : Nat) (a0 : Int) (a1_0 : Int) (a1_1 : Int) : Option (Bool) := (foghornref04_Edge.f a0).bind fun bt478 => (if bt478.2 = 0 then (if (Int.tmod a1_0 2) = 0 then (foghornref04_in.j0 k a0 true a1_0 a1_1) else (if (Int.tmod a1_1 2) = 0 then (foghornref04_in.j0 k a0 true a1_0 a1_1) else ((foghornref04_size.f a1_0).bind fun t480 => (if t480 > bt478.1 then (foghornref04_in.j0 k a0 true a1_0 a1_1) else ((foghornref04_size.f a1_1).bind fun t481 => (foghornref04_in.j0 k a0 (decide (t481 > bt478.1)) a1_0 a1_1)))))) else (foghornref04_in.j0 k a0 true a1_0 a1_1))
theorem foghornref04_in.mono_l : ∀ k, (∀ y0 y1 y2 y3, LeO (foghornref04_in.j0 k y0 y1 y2 y3) (foghornref04_in.j0 (k + 1) y0 y1 y2 y3)) ∧ (∀ y0 y1 y2 y3, LeO (foghornref04_in.j1 k y0 y1 y2 y3) (foghornref04_in.j1 (k + 1) y0 y1 y2 y3))
  | 0 => ⟨fun _ _ _ _ r h => by simp [foghornref04_in.j0] at h, fun _ _ _ _ r h => by simp [foghornref04_in.j1] at h⟩
  | k + 1 => by
    obtain ⟨ih0, ih1⟩ := foghornref04_in.mono_l k
    refine ⟨?_, ?_⟩
    · intro y0 y1 y2 y3
      unfold foghornref04_in.j0
      repeat' first
      | (with_reducible exact ih0 _ _ _ _)
      | (with_reducible exact ih1 _ _ _ _)
      | (with_reducible exact LeO.refl _)
      | (with_reducible exact LeO.none _)
      | (with_reducible refine LeO.ite ?_ ?_)
      | (with_reducible refine LeO.bind ?_ (fun _ => ?_))
      | exact ih0 _ _ _ _
      | exact ih1 _ _ _ _
      | exact LeO.none _
      | refine LeO.ite ?_ ?_
      | refine LeO.bind ?_ (fun _ => ?_)
    · intro y0 y1 y2 y3
      unfold foghornref04_in.j1
      repeat' first
      | (with_reducible exact ih0 _ _ _ _)
      | (with_reducible exact ih1 _ _ _ _)
      | (with_reducible exact LeO.refl _)
      | (with_reducible exact LeO.none _)
      | (with_reducible refine LeO.ite ?_ ?_)
      | (with_reducible refine LeO.bind ?_ (fun _ => ?_))
      | exact ih0 _ _ _ _
      | exact ih1 _ _ _ _
      | exact LeO.none _
      | refine LeO.ite ?_ ?_
      | refine LeO.bind ?_ (fun _ => ?_)
theorem foghornref04_in.mono : ∀ a0 a1 a2 k, LeO (foghornref04_in.f k a0 a1 a2) (foghornref04_in.f (k + 1) a0 a1 a2) := by
  intro a0 a1 a2 k
  obtain ⟨ih0, ih1⟩ := foghornref04_in.mono_l k
  unfold foghornref04_in.f
  repeat' first
      | (with_reducible exact ih0 _ _ _ _)
      | (with_reducible exact ih1 _ _ _ _)
      | (with_reducible exact LeO.refl _)
      | (with_reducible exact LeO.none _)
      | (with_reducible refine LeO.ite ?_ ?_)
      | (with_reducible refine LeO.bind ?_ (fun _ => ?_))
      | exact ih0 _ _ _ _
      | exact ih1 _ _ _ _
      | exact LeO.none _
      | refine LeO.ite ?_ ?_
      | refine LeO.bind ?_ (fun _ => ?_)

/-! ### foghornref04_Bits: function 173 -/
def foghornref04_Bits.f (a0 : Int) : Option (Int × Int) := if a0 = 4 then (some (2, 0)) else (if a0 = 16 then (some (4, 0)) else (if a0 = 32 then (some (5, 0)) else (if a0 = 64 then (some (6, 0)) else (if a0 = 128 then (some (7, 0)) else (if a0 = 256 then (some (8, 0)) else (some (0, 1)))))))

/-! ### foghornref01_power: function 180 -/
def foghornref01_power.l0 : Nat → Int → Int → Int → Option (Int)
  | 0, _, _, _ => none
  | k + 1, x0, x3, x4 => if x4 < x0 then (foghornref01_power.l0 k x0 (wrap64 (2 * x3)) (wrap64 (x4 + 1))) else (some x3)
def foghornref01_power.f (k : Nat) (a0 : Int) : Option (Int) := foghornref01_power.l0 k a0 1 0
theorem foghornref01_power.mono_l : ∀ k, (∀ y0 y1 y2, LeO (foghornref01_power.l0 k y0 y1 y2) (foghornref01_power.l0 (k + 1) y0 y1 y2))
  | 0 => fun _ _ _ r h => by simp [foghornref01_power.l0] at h
  | k + 1 => by
    have ih0 := foghornref01_power.mono_l k
    · intro y0 y1 y2
      unfold foghornref01_power.l0
      repeat' first
      | (with_reducible exact ih0 _ _ _)
      | (with_reducible exact LeO.refl _)
      | (with_reducible exact LeO.none _)
      | (with_reducible refine LeO.ite ?_ ?_)
      | (with_reducible refine LeO.bind ?_ (fun _ => ?_))
      | exact ih0 _ _ _
      | exact LeO.none _
      | refine LeO.ite ?_ ?_
      | refine LeO.bind ?_ (fun _ => ?_)
theorem foghornref01_power.mono : ∀ a0 k, LeO (foghornref01_power.f k a0) (foghornref01_power.f (k + 1) a0) := by
  intro a0 k
  have ih0 := foghornref01_power.mono_l k
  unfold foghornref01_power.f
  repeat' first
      | (with_reducible exact ih0 _ _ _)
      | (with_reducible exact LeO.refl _)
      | (with_reducible exact LeO.none _)
      | (with_reducible refine LeO.ite ?_ ?_)
      | (with_reducible refine LeO.bind ?_ (fun _ => ?_))
      | exact ih0 _ _ _
      | exact LeO.none _
      | refine LeO.ite ?_ ?_
      | refine LeO.bind ?_ (fun _ => ?_)

/-! ### foghornref01_gray: function 177 -/
def foghornref01_gray.l0 : Nat → Int → Int → Int → Option (Int)
  | 0, _, _, _ => none
  | k + 1, x0, x3, x4 => if x4 < 16 then ((foghornref01_power.f k x4).bind fun t486 => (if t486 = 0 then (none) else ((foghornref01_power.f k (wrap64 (x4 + 1))).bind fun t487 => (if t487 = 0 then (none) else (if (Int.tmod (wrap64 (Int.tdiv x0 t486)) 2) = (Int.tmod (wrap64 (Int.tdiv x0 t487)) 2) then (foghornref01_gray.l0 k x0 x3 (wrap64 (x4 + 1))) else ((foghornref01_power.f k x4).bind fun t488 => (foghornref01_gray.l0 k x0 (wrap64 (x3 + t488)) (wrap64 (x4 + 1))))))))) else (some x3)
def foghornref01_gray.f (k : Nat) (a0 : Int) : Option (Int) := foghornref01_gray.l0 k a0 0 0
theorem foghornref01_gray.mono_l : ∀ k, (∀ y0 y1 y2, LeO (foghornref01_gray.l0 k y0 y1 y2) (foghornref01_gray.l0 (k + 1) y0 y1 y2))
  | 0 => fun _ _ _ r h => by simp [foghornref01_gray.l0] at h
  | k + 1 => by
    have ih0 := foghornref01_gray.mono_l k
    · intro y0 y1 y2
      unfold foghornref01_gray.l0
      repeat' first
      | (with_reducible exact ih0 _ _ _)
      | (with_reducible exact foghornref01_power.mono _ _)
      | (with_reducible exact LeO.refl _)
      | (with_reducible exact LeO.none _)
      | (with_reducible refine LeO.ite ?_ ?_)
      | (with_reducible refine LeO.bind ?_ (fun _ => ?_))
      | exact ih0 _ _ _
      | exact foghornref01_power.mono _ _
      | exact LeO.none _
      | refine LeO.ite ?_ ?_
      | refine LeO.bind ?_ (fun _ => ?_)
theorem foghornref01_gray.mono : ∀ a0 k, LeO (foghornref01_gray.f k a0) (foghornref01_gray.f (k + 1) a0) := by
  intro a0 k
  have ih0 := foghornref01_gray.mono_l k
  unfold foghornref01_gray.f
  repeat' first
      | (with_reducible exact ih0 _ _ _)
      | (with_reducible exact foghornref01_power.mono _ _)
      | (with_reducible exact LeO.refl _)
      | (with_reducible exact LeO.none _)
      | (with_reducible refine LeO.ite ?_ ?_)
      | (with_reducible refine LeO.bind ?_ (fun _ => ?_))
      | exact ih0 _ _ _
      | exact foghornref01_power.mono _ _
      | exact LeO.none _
      | refine LeO.ite ?_ ?_
      | refine LeO.bind ?_ (fun _ => ?_)

/-! ### foghornref01_Gray: function 174 -/
def foghornref01_Gray.f (k : Nat) (a0 : Int) : Option (Int × Int) := if a0 < 0 then (some (0, 1)) else (if a0 > 65535 then (some (0, 1)) else ((foghornref01_gray.f k a0).bind fun t489 => (some (t489, 0))))
theorem foghornref01_Gray.mono : ∀ a0 k, LeO (foghornref01_Gray.f k a0) (foghornref01_Gray.f (k + 1) a0) := by
  intro a0 k
  unfold foghornref01_Gray.f
  repeat' first
      | (with_reducible exact foghornref01_gray.mono _ _)
      | (with_reducible exact LeO.refl _)
      | (with_reducible exact LeO.none _)
      | (with_reducible refine LeO.ite ?_ ?_)
      | (with_reducible refine LeO.bind ?_ (fun _ => ?_))
      | exact foghornref01_gray.mono _ _
      | exact LeO.none _
      | refine LeO.ite ?_ ?_
      | refine LeO.bind ?_ (fun _ => ?_)

/-! ### foghornref04_label: function 162 -/
mutual
def foghornref04_label.j0 : Nat → Int → Int → Bool → Int → Int → Option (Int)
  | 0, _, _, _, _, _ => none
  | k + 1, x0, x5, x27, x491000, x491001 => if x27 = true then ((foghornref04_Bits.f x0).bind fun bt493 => ((foghornref01_Gray.f k (wrap64 (Int.tdiv (wrap64 (x491000 + x5)) 2))).bind fun bt495 => ((foghornref01_Gray.f k (wrap64 (Int.tdiv (wrap64 (x491001 + x5)) 2))).bind fun bt497 => (foghornref04_label.l0 k bt493.1 bt495.1 bt497.1 0)))) else (foghornref04_label.l1 k x0 x5 0 (wrap64 (-x5)) x491000 x491001)
def foghornref04_label.l0 : Nat → Int → Int → Int → Int → Option (Int)
  | 0, _, _, _, _ => none
  | k + 1, x7, x9, x11, x13 => if x13 < (wrap64 (Int.tdiv x7 2)) then (foghornref04_label.l0 k x7 (wrap64 (2 * x9)) x11 (wrap64 (x13 + 1))) else (some (wrap64 (x9 + x11)))
def foghornref04_label.l1 : Nat → Int → Int → Int → Int → Int → Int → Option (Int)
  | 0, _, _, _, _, _, _ => none
  | k + 1, x0, x5, x14, x15, x491000, x491001 => if x15 ≤ x5 then (foghornref04_label.l2 k x0 x5 x14 x15 (wrap64 (-x5)) x491000 x491001) else (some x14)
def foghornref04_label.l2 : Nat → Int → Int → Int → Int → Int → Int → Int → Option (Int)
  | 0, _, _, _, _, _, _, _ => none
  | k + 1, x0, x5, x14, x15, x16, x491000, x491001 => if x16 ≤ x5 then ((foghornref04_in.f k x0 x15 x16).bind fun t499 => (if t499 = true then (if x15 < x491000 then (foghornref04_label.l2 k x0 x5 (wrap64 (x14 + 1)) x15 (wrap64 (x16 + 1)) x491000 x491001) else (if x15 = x491000 then (if x16 < x491001 then (foghornref04_label.l2 k x0 x5 (wrap64 (x14 + 1)) x15 (wrap64 (x16 + 1)) x491000 x491001) else (foghornref04_label.l2 k x0 x5 x14 x15 (wrap64 (x16 + 1)) x491000 x491001)) else (foghornref04_label.l2 k x0 x5 x14 x15 (wrap64 (x16 + 1)) x491000 x491001))) else (foghornref04_label.l2 k x0 x5 x14 x15 (wrap64 (x16 + 1)) x491000 x491001))) else (foghornref04_label.l1 k x0 x5 x14 (wrap64 (x15 + 1)) x491000 x491001)
end
def foghornref04_label.f (k : Nat) (a0 : Int) (a1_0 : Int) (a1_1 : Int) : Option (Int) := (foghornref04_Edge.f a0).bind fun bt491 => (if a0 = 32 then (foghornref04_label.j0 k a0 bt491.1 false a1_0 a1_1) else (foghornref04_label.j0 k a0 bt491.1 (a0 != 128) a1_0 a1_1))
theorem foghornref04_label.mono_l : ∀ k, (∀ y0 y1 y2 y3 y4, LeO (foghornref04_label.j0 k y0 y1 y2 y3 y4) (foghornref04_label.j0 (k + 1) y0 y1 y2 y3 y4)) ∧ (∀ y0 y1 y2 y3, LeO (foghornref04_label.l0 k y0 y1 y2 y3) (foghornref04_label.l0 (k + 1) y0 y1 y2 y3)) ∧ (∀ y0 y1 y2 y3 y4 y5, LeO (foghornref04_label.l1 k y0 y1 y2 y3 y4 y5) (foghornref04_label.l1 (k + 1) y0 y1 y2 y3 y4 y5)) ∧ (∀ y0 y1 y2 y3 y4 y5 y6, LeO (foghornref04_label.l2 k y0 y1 y2 y3 y4 y5 y6) (foghornref04_label.l2 (k + 1) y0 y1 y2 y3 y4 y5 y6))
  | 0 => ⟨fun _ _ _ _ _ r h => by simp [foghornref04_label.j0] at h, fun _ _ _ _ r h => by simp [foghornref04_label.l0] at h, fun _ _ _ _ _ _ r h => by simp [foghornref04_label.l1] at h, fun _ _ _ _ _ _ _ r h => by simp [foghornref04_label.l2] at h⟩
  | k + 1 => by
    obtain ⟨ih0, ih1, ih2, ih3⟩ := foghornref04_label.mono_l k
    refine ⟨?_, ?_, ?_, ?_⟩
    · intro y0 y1 y2 y3 y4
      unfold foghornref04_label.j0
      repeat' first
      | (with_reducible exact ih0 _ _ _ _ _)
      | (with_reducible exact ih1 _ _ _ _)
      | (with_reducible exact ih2 _ _ _ _ _ _)
      | (with_reducible exact ih3 _ _ _ _ _ _ _)
      | (with_reducible exact foghornref01_Gray.mono _ _)
      | (with_reducible exact foghornref04_in.mono _ _ _ _)
      | (with_reducible exact LeO.refl _)
      | (with_reducible exact LeO.none _)
      | (with_reducible refine LeO.ite ?_ ?_)
      | (with_reducible refine LeO.bind ?_ (fun _ => ?_))
      | exact ih0 _ _ _ _ _
      | exact ih1 _ _ _ _
      | exact ih2 _ _ _ _ _ _
      | exact ih3 _ _ _ _ _ _ _
      | exact foghornref01_Gray.mono _ _
      | exact foghornref04_in.mono _ _ _ _
      | exact LeO.none _
      | refine LeO.ite ?_ ?_
      | refine LeO.bind ?_ (fun _ => ?_)
    · intro y0 y1 y2 y3
      unfold foghornref04_label.l0
      repeat' first
      | (with_reducible exact ih0 _ _ _ _ _)
      | (with_reducible exact ih1 _ _ _ _)
      | (with_reducible exact ih2 _ _ _ _ _ _)
      | (with_reducible exact ih3 _ _ _ _ _ _ _)
      | (with_reducible exact foghornref01_Gray.mono _ _)
      | (with_reducible exact foghornref04_in.mono _ _ _ _)
      | (with_reducible exact LeO.refl _)
      | (with_reducible exact LeO.none _)
      | (with_reducible refine LeO.ite ?_ ?_)
      | (with_reducible refine LeO.bind ?_ (fun _ => ?_))
      | exact ih0 _ _ _ _ _
      | exact ih1 _ _ _ _
      | exact ih2 _ _ _ _ _ _
      | exact ih3 _ _ _ _ _ _ _
      | exact foghornref01_Gray.mono _ _
      | exact foghornref04_in.mono _ _ _ _
      | exact LeO.none _
      | refine LeO.ite ?_ ?_
      | refine LeO.bind ?_ (fun _ => ?_)
    · intro y0 y1 y2 y3 y4 y5
      unfold foghornref04_label.l1
      repeat' first
      | (with_reducible exact ih0 _ _ _ _ _)
      | (with_reducible exact ih1 _ _ _ _)
      | (with_reducible exact ih2 _ _ _ _ _ _)
      | (with_reducible exact ih3 _ _ _ _ _ _ _)
      | (with_reducible exact foghornref01_Gray.mono _ _)
      | (with_reducible exact foghornref04_in.mono _ _ _ _)
      | (with_reducible exact LeO.refl _)
      | (with_reducible exact LeO.none _)
      | (with_reducible refine LeO.ite ?_ ?_)
      | (with_reducible refine LeO.bind ?_ (fun _ => ?_))
      | exact ih0 _ _ _ _ _
      | exact ih1 _ _ _ _
      | exact ih2 _ _ _ _ _ _
      | exact ih3 _ _ _ _ _ _ _
      | exact foghornref01_Gray.mono _ _
      | exact foghornref04_in.mono _ _ _ _
      | exact LeO.none _
      | refine LeO.ite ?_ ?_
      | refine LeO.bind ?_ (fun _ => ?_)
    · intro y0 y1 y2 y3 y4 y5 y6
      unfold foghornref04_label.l2
      repeat' first
      | (with_reducible exact ih0 _ _ _ _ _)
      | (with_reducible exact ih1 _ _ _ _)
      | (with_reducible exact ih2 _ _ _ _ _ _)
      | (with_reducible exact ih3 _ _ _ _ _ _ _)
      | (with_reducible exact foghornref01_Gray.mono _ _)
      | (with_reducible exact foghornref04_in.mono _ _ _ _)
      | (with_reducible exact LeO.refl _)
      | (with_reducible exact LeO.none _)
      | (with_reducible refine LeO.ite ?_ ?_)
      | (with_reducible refine LeO.bind ?_ (fun _ => ?_))
      | exact ih0 _ _ _ _ _
      | exact ih1 _ _ _ _
      | exact ih2 _ _ _ _ _ _
      | exact ih3 _ _ _ _ _ _ _
      | exact foghornref01_Gray.mono _ _
      | exact foghornref04_in.mono _ _ _ _
      | exact LeO.none _
      | refine LeO.ite ?_ ?_
      | refine LeO.bind ?_ (fun _ => ?_)
theorem foghornref04_label.mono : ∀ a0 a1 a2 k, LeO (foghornref04_label.f k a0 a1 a2) (foghornref04_label.f (k + 1) a0 a1 a2) := by
  intro a0 a1 a2 k
  obtain ⟨ih0, ih1, ih2, ih3⟩ := foghornref04_label.mono_l k
  unfold foghornref04_label.f
  repeat' first
      | (with_reducible exact ih0 _ _ _ _ _)
      | (with_reducible exact ih1 _ _ _ _)
      | (with_reducible exact ih2 _ _ _ _ _ _)
      | (with_reducible exact ih3 _ _ _ _ _ _ _)
      | (with_reducible exact foghornref01_Gray.mono _ _)
      | (with_reducible exact foghornref04_in.mono _ _ _ _)
      | (with_reducible exact LeO.refl _)
      | (with_reducible exact LeO.none _)
      | (with_reducible refine LeO.ite ?_ ?_)
      | (with_reducible refine LeO.bind ?_ (fun _ => ?_))
      | exact ih0 _ _ _ _ _
      | exact ih1 _ _ _ _
      | exact ih2 _ _ _ _ _ _
      | exact ih3 _ _ _ _ _ _ _
      | exact foghornref01_Gray.mono _ _
      | exact foghornref04_in.mono _ _ _ _
      | exact LeO.none _
      | refine LeO.ite ?_ ?_
      | refine LeO.bind ?_ (fun _ => ?_)

/-! ### foghornref04_Points: function 140 -/
mutual
def foghornref04_Points.l0 : Nat → Int → Int → List (S220) → Int → Option ((List (S220)) × Int)
  | 0, _, _, _, _ => none
  | k + 1, x0, x4, x6, x7 => if x7 ≤ x4 then (foghornref04_Points.l1 k x0 x4 x6 x7 (wrap64 (-x4))) else (some (x6, 0))
def foghornref04_Points.l1 : Nat → Int → Int → List (S220) → Int → Int → Option ((List (S220)) × Int)
  | 0, _, _, _, _, _ => none
  | k + 1, x0, x4, x6, x7, x8 => if x8 ≤ x4 then ((foghornref04_in.f k x0 x7 x8).bind fun t505 => (if t505 = true then ((foghornref04_label.f k x0 x7 x8).bind fun t506 => (if 0 ≤ t506 then (if t506 < (x6.length : Int) then (foghornref04_Points.l1 k x0 x4 (x6.set (t506 : Int).toNat (⟨x7, x8⟩ : S220)) x7 (wrap64 (x8 + 1))) else (none)) else (none))) else (foghornref04_Points.l1 k x0 x4 x6 x7 (wrap64 (x8 + 1))))) else (foghornref04_Points.l0 k x0 x4 x6 (wrap64 (x7 + 1)))
end
def foghornref04_Points.f (k : Nat) (a0 : Int) : Option ((List (S220)) × Int) := (foghornref04_Edge.f a0).bind fun bt500 => (if bt500.2 = 0 then (if 0 ≤ a0 then (if (a0 : Int).toNat ≤ 17592186044416 then (foghornref04_Points.l0 k a0 bt500.1 (List.replicate (a0 : Int).toNat z220) (wrap64 (-bt500.1))) else (none)) else (none)) else (some (([] : List (S220)), bt500.2)))
theorem foghornref04_Points.mono_l : ∀ k, (∀ y0 y1 y2 y3, LeO (foghornref04_Points.l0 k y0 y1 y2 y3) (foghornref04_Points.l0 (k + 1) y0 y1 y2 y3)) ∧ (∀ y0 y1 y2 y3 y4, LeO (foghornref04_Points.l1 k y0 y1 y2 y3 y4) (foghornref04_Points.l1 (k + 1) y0 y1 y2 y3 y4))
  | 0 => ⟨fun _ _ _ _ r h => by simp [foghornref04_Points.l0] at h, fun _ _ _ _ _ r h => by simp [foghornref04_Points.l1] at h⟩
  | k + 1 => by
    obtain ⟨ih0, ih1⟩ := foghornref04_Points.mono_l k
    refine ⟨?_, ?_⟩
    · intro y0 y1 y2 y3
      unfold foghornref04_Points.l0
      repeat' first
      | (with_reducible exact ih0 _ _ _ _)
      | (with_reducible exact ih1 _ _ _ _ _)
      | (with_reducible exact foghornref04_in.mono _ _ _ _)
      | (with_reducible exact foghornref04_label.mono _ _ _ _)
      | (with_reducible exact LeO.refl _)
      | (with_reducible exact LeO.none _)
      | (with_reducible refine LeO.ite ?_ ?_)
      | (with_reducible refine LeO.bind ?_ (fun _ => ?_))
      | exact ih0 _ _ _ _
      | exact ih1 _ _ _ _ _
      | exact foghornref04_in.mono _ _ _ _
      | exact foghornref04_label.mono _ _ _ _
      | exact LeO.none _
      | refine LeO.ite ?_ ?_
      | refine LeO.bind ?_ (fun _ => ?_)
    · intro y0 y1 y2 y3 y4
      unfold foghornref04_Points.l1
      repeat' first
      | (with_reducible exact ih0 _ _ _ _)
      | (with_reducible exact ih1 _ _ _ _ _)
      | (with_reducible exact foghornref04_in.mono _ _ _ _)
      | (with_reducible exact foghornref04_label.mono _ _ _ _)
      | (with_reducible exact LeO.refl _)
      | (with_reducible exact LeO.none _)
      | (with_reducible refine LeO.ite ?_ ?_)
      | (with_reducible refine LeO.bind ?_ (fun _ => ?_))
      | exact ih0 _ _ _ _
      | exact ih1 _ _ _ _ _
      | exact foghornref04_in.mono _ _ _ _
      | exact foghornref04_label.mono _ _ _ _
      | exact LeO.none _
      | refine LeO.ite ?_ ?_
      | refine LeO.bind ?_ (fun _ => ?_)
theorem foghornref04_Points.mono : ∀ a0 k, LeO (foghornref04_Points.f k a0) (foghornref04_Points.f (k + 1) a0) := by
  intro a0 k
  obtain ⟨ih0, ih1⟩ := foghornref04_Points.mono_l k
  unfold foghornref04_Points.f
  repeat' first
      | (with_reducible exact ih0 _ _ _ _)
      | (with_reducible exact ih1 _ _ _ _ _)
      | (with_reducible exact foghornref04_in.mono _ _ _ _)
      | (with_reducible exact foghornref04_label.mono _ _ _ _)
      | (with_reducible exact LeO.refl _)
      | (with_reducible exact LeO.none _)
      | (with_reducible refine LeO.ite ?_ ?_)
      | (with_reducible refine LeO.bind ?_ (fun _ => ?_))
      | exact ih0 _ _ _ _
      | exact ih1 _ _ _ _ _
      | exact foghornref04_in.mono _ _ _ _
      | exact foghornref04_label.mono _ _ _ _
      | exact LeO.none _
      | refine LeO.ite ?_ ?_
      | refine LeO.bind ?_ (fun _ => ?_)

/-! ### foghornref04_Number: function 141 -/
def foghornref04_Number.f (a0_0 : Int) (a0_1 : Int) : Option ((Nat × Nat)) := some (floatOfInt .f64 a0_0, floatOfInt .f64 a0_1)

/-! ### foghornref04_All: function 98 -/
def foghornref04_All.l0 : Nat → List (S220) → Int → List (Nat × Nat) → Int → Option (List (Nat × Nat) × Int)
  | 0, _, _, _, _ => none
  | k + 1, x4, x5, x6, x7 => if x7 < (x4.length : Int) then (if 0 ≤ x7 then ((foghornref04_Number.f ((rd_T220 x4 x7).f0) ((rd_T220 x4 x7).f1)).bind fun t514 => (if x6.length < 8796093022208 then (foghornref04_All.l0 k x4 x5 (x6 ++ [t514]) (wrap64 (x7 + 1))) else (none))) else (none)) else (some (x6, x5))
def foghornref04_All.f (k : Nat) (a0 : Int) : Option (List (Nat × Nat) × Int) := (foghornref04_Points.f k a0).bind fun bt509 => (foghornref04_All.l0 k bt509.1 bt509.2 ([] : List (Nat × Nat)) 0)
theorem foghornref04_All.mono_l : ∀ k, (∀ y0 y1 y2 y3, LeO (foghornref04_All.l0 k y0 y1 y2 y3) (foghornref04_All.l0 (k + 1) y0 y1 y2 y3))
  | 0 => fun _ _ _ _ r h => by simp [foghornref04_All.l0] at h
  | k + 1 => by
    have ih0 := foghornref04_All.mono_l k
    · intro y0 y1 y2 y3
      unfold foghornref04_All.l0
      repeat' first
      | (with_reducible exact ih0 _ _ _ _)
      | (with_reducible exact foghornref04_Points.mono _ _)
      | (with_reducible exact LeO.refl _)
      | (with_reducible exact LeO.none _)
      | (with_reducible refine LeO.ite ?_ ?_)
      | (with_reducible refine LeO.bind ?_ (fun _ => ?_))
      | exact ih0 _ _ _ _
      | exact foghornref04_Points.mono _ _
      | exact LeO.none _
      | refine LeO.ite ?_ ?_
      | refine LeO.bind ?_ (fun _ => ?_)
theorem foghornref04_All.mono : ∀ a0 k, LeO (foghornref04_All.f k a0) (foghornref04_All.f (k + 1) a0) := by
  intro a0 k
  have ih0 := foghornref04_All.mono_l k
  unfold foghornref04_All.f
  repeat' first
      | (with_reducible exact ih0 _ _ _ _)
      | (with_reducible exact foghornref04_Points.mono _ _)
      | (with_reducible exact LeO.refl _)
      | (with_reducible exact LeO.none _)
      | (with_reducible refine LeO.ite ?_ ?_)
      | (with_reducible refine LeO.bind ?_ (fun _ => ?_))
      | exact ih0 _ _ _ _
      | exact foghornref04_Points.mono _ _
      | exact LeO.none _
      | refine LeO.ite ?_ ?_
      | refine LeO.bind ?_ (fun _ => ?_)

/-! ### foghornref04_At: function 64 -/
def foghornref04_At.f (k : Nat) (a0 : Int) (a1 : Int) : Option ((Nat × Nat) × Int) := (foghornref04_All.f k a0).bind fun bt518 => (if bt518.2 = 0 then (if a1 < 0 then (some ((0, 0), 1)) else (if a1 ≥ a0 then (some ((0, 0), 1)) else (if 0 ≤ a1 then (if a1 < (bt518.1.length : Int) then (some (rdOf (0, 0) bt518.1 a1, 0)) else (none)) else (none)))) else (some ((0, 0), 1)))
theorem foghornref04_At.mono : ∀ a0 a1 k, LeO (foghornref04_At.f k a0 a1) (foghornref04_At.f (k + 1) a0 a1) := by
  intro a0 a1 k
  unfold foghornref04_At.f
  repeat' first
      | (with_reducible exact foghornref04_All.mono _ _)
      | (with_reducible exact LeO.refl _)
      | (with_reducible exact LeO.none _)
      | (with_reducible refine LeO.ite ?_ ?_)
      | (with_reducible refine LeO.bind ?_ (fun _ => ?_))
      | exact foghornref04_All.mono _ _
      | exact LeO.none _
      | refine LeO.ite ?_ ?_
      | refine LeO.bind ?_ (fun _ => ?_)

/-! ### foghornref05_gap: function 121 -/
def foghornref05_gap.f (a0 : (Nat × Nat)) (a1 : (Nat × Nat)) : Option (Nat) := (floatBits .sub .f64 a0.1 a1.1).bind fun t523 => ((floatBits .sub .f64 a0.2 a1.2).bind fun t524 => ((floatBits .mul .f64 t523 t523).bind fun t525 => ((floatBits .mul .f64 t524 t524).bind fun t526 => ((floatBits .add .f64 t525 t526).bind fun t527 => (some t527)))))

/-! ### foghornref05_Gap: function 50 -/
def foghornref05_Gap.f (k : Nat) (a0 : Int) (a1 : (Nat × Nat)) (a2 : Int) : Option (Nat × Int) := (foghornref04_At.f k a0 a2).bind fun bt528 => ((foghornref05_Cut.f k a0 a1).bind fun bt530 => (if bt528.2 = 0 then (if bt530.2 = 0 then ((foghornref05_gap.f bt530.1 bt528.1).bind fun t532 => (some (t532, 0))) else (some (0, 1))) else (some (0, 1))))
theorem foghornref05_Gap.mono : ∀ a0 a1 a2 k, LeO (foghornref05_Gap.f k a0 a1 a2) (foghornref05_Gap.f (k + 1) a0 a1 a2) := by
  intro a0 a1 a2 k
  unfold foghornref05_Gap.f
  repeat' first
      | (with_reducible exact foghornref04_At.mono _ _ _)
      | (with_reducible exact foghornref05_Cut.mono _ _ _)
      | (with_reducible exact LeO.refl _)
      | (with_reducible exact LeO.none _)
      | (with_reducible refine LeO.ite ?_ ?_)
      | (with_reducible refine LeO.bind ?_ (fun _ => ?_))
      | exact foghornref04_At.mono _ _ _
      | exact foghornref05_Cut.mono _ _ _
      | exact LeO.none _
      | refine LeO.ite ?_ ?_
      | refine LeO.bind ?_ (fun _ => ?_)

/-! ### points_At: function 122 -/
def points_At.f (a0 : Int) (a1 : Int) : Option ((Nat × Nat) × Int) := match pts_spec a0 with
  | none => some ((0, 0), 1)
  | some x => if 0 ≤ a1 ∧ a1 < a0 then (x.2.2 a1).bind fun r => some (r, 0) else some ((0, 0), 1)

/-! ### slice_gap: function 123 -/
def slice_gap.f (a0 : (Nat × Nat)) (a1 : (Nat × Nat)) : Option (Nat) := (floatBits .sub .f64 a0.1 a1.1).bind fun t533 => ((floatBits .sub .f64 a0.2 a1.2).bind fun t534 => ((floatBits .mul .f64 t533 t533).bind fun t535 => ((floatBits .mul .f64 t534 t534).bind fun t536 => ((floatBits .add .f64 t535 t536).bind fun t537 => (some t537)))))

/-! ### slice_Gap: function 51 -/
def slice_Gap.f (a0 : Int) (a1 : (Nat × Nat)) (a2 : Int) : Option (Nat × Int) := (points_At.f a0 a2).bind fun bt538 => ((slice_Cut.f a0 a1).bind fun bt540 => (if bt538.2 = 0 then (if bt540.2 = 0 then ((slice_gap.f bt540.1 bt538.1).bind fun t542 => (some (t542, 0))) else (some (0, 1))) else (some (0, 1))))

/-! ### foghornlaw05_SliceAxes: function 7 -/
def foghornlaw05_SliceAxes.f (k : Nat) (a0 : Int) (a1 : Int) (a2 : Int) (a3 : Int) (a4 : Int) : Option (Bool) := (foghornlaw05_number.f a0 a1).bind fun t543 => ((foghornref05_Axis.f k t543.1 a2).bind fun bt544 => ((slice_Axis.f k t543.1 a2).bind fun bt546 => ((foghornref05_Cut.f k a3 t543).bind fun bt548 => ((slice_Cut.f a3 t543).bind fun bt550 => ((foghornref05_Gap.f k a3 t543 a4).bind fun bt552 => ((slice_Gap.f a3 t543 a4).bind fun bt554 => (if bt544.1 = bt546.1 then (if bt544.2 = bt546.2 then (if ((FloatKind.f64.format.order bt548.1.1 bt550.1.1 == some .eq) && (FloatKind.f64.format.order bt548.1.2 bt550.1.2 == some .eq)) = true then (if bt548.2 = bt550.2 then (if (FloatKind.f64.format.order bt552.1 bt554.1 == some .eq) = true then (some (bt552.2 == bt554.2)) else (some false)) else (some false)) else (some false)) else (some false)) else (some false))))))))
theorem foghornlaw05_SliceAxes.mono : ∀ a0 a1 a2 a3 a4 k, LeO (foghornlaw05_SliceAxes.f k a0 a1 a2 a3 a4) (foghornlaw05_SliceAxes.f (k + 1) a0 a1 a2 a3 a4) := by
  intro a0 a1 a2 a3 a4 k
  unfold foghornlaw05_SliceAxes.f
  repeat' first
      | (with_reducible exact foghornref05_Axis.mono _ _ _)
      | (with_reducible exact foghornref05_Cut.mono _ _ _)
      | (with_reducible exact foghornref05_Gap.mono _ _ _ _)
      | (with_reducible exact slice_Axis.mono _ _ _)
      | (with_reducible exact LeO.refl _)
      | (with_reducible exact LeO.none _)
      | (with_reducible refine LeO.ite ?_ ?_)
      | (with_reducible refine LeO.bind ?_ (fun _ => ?_))
      | exact foghornref05_Axis.mono _ _ _
      | exact foghornref05_Cut.mono _ _ _
      | exact foghornref05_Gap.mono _ _ _ _
      | exact slice_Axis.mono _ _ _
      | exact LeO.none _
      | refine LeO.ite ?_ ?_
      | refine LeO.bind ?_ (fun _ => ?_)
/-- THE ONE PURE STATEMENT of foghornlaw05_SliceAxes: yours. -/
def foghornlaw05_SliceAxes.Pure : Prop := ∀ (a0 : Int) (a1 : Int) (a2 : Int) (a3 : Int) (a4 : Int), (Lit.int .u64 a0).wf = true → (Lit.int .u64 a1).wf = true → (Lit.int .i64 a2).wf = true → (Lit.int .i64 a3).wf = true → (Lit.int .i64 a4).wf = true → ∃ k, foghornlaw05_SliceAxes.f k a0 a1 a2 a3 a4 = some true

/-! ### foghornref02_Finite: function 124 -/
def foghornref02_Finite.f (a0 : Nat) : Option (Bool) := match floatBits .sub .f64 a0 a0 with
  | some t => some (FloatKind.f64.format.order t 0 == some .eq)
  | none => some false

/-! ### foghornref04_Label: function 125 -/
def foghornref04_Label.l0 : Nat → (Nat × Nat) → List (Nat × Nat) → Int → Option (Int × Int)
  | 0, _, _, _ => none
  | k + 1, x1, x6, x8 => if x8 < (x6.length : Int) then (if 0 ≤ x8 then (if ((FloatKind.f64.format.order ((rdOf (0, 0) x6 x8).1) x1.1 == some .eq) && (FloatKind.f64.format.order ((rdOf (0, 0) x6 x8).2) x1.2 == some .eq)) = true then (some (x8, 0)) else (foghornref04_Label.l0 k x1 x6 (wrap64 (x8 + 1)))) else (none)) else (some (0, 6))
def foghornref04_Label.f (k : Nat) (a0 : Int) (a1 : (Nat × Nat)) : Option (Int × Int) := (foghornref04_All.f k a0).bind fun bt556 => (if bt556.2 = 0 then (foghornref04_Label.l0 k a1 bt556.1 0) else (some (0, bt556.2)))
theorem foghornref04_Label.mono_l : ∀ k, (∀ y0 y1 y2, LeO (foghornref04_Label.l0 k y0 y1 y2) (foghornref04_Label.l0 (k + 1) y0 y1 y2))
  | 0 => fun _ _ _ r h => by simp [foghornref04_Label.l0] at h
  | k + 1 => by
    have ih0 := foghornref04_Label.mono_l k
    · intro y0 y1 y2
      unfold foghornref04_Label.l0
      repeat' first
      | (with_reducible exact ih0 _ _ _)
      | (with_reducible exact foghornref04_All.mono _ _)
      | (with_reducible exact LeO.refl _)
      | (with_reducible exact LeO.none _)
      | (with_reducible refine LeO.ite ?_ ?_)
      | (with_reducible refine LeO.bind ?_ (fun _ => ?_))
      | exact ih0 _ _ _
      | exact foghornref04_All.mono _ _
      | exact LeO.none _
      | refine LeO.ite ?_ ?_
      | refine LeO.bind ?_ (fun _ => ?_)
theorem foghornref04_Label.mono : ∀ a0 a1 k, LeO (foghornref04_Label.f k a0 a1) (foghornref04_Label.f (k + 1) a0 a1) := by
  intro a0 a1 k
  have ih0 := foghornref04_Label.mono_l k
  unfold foghornref04_Label.f
  repeat' first
      | (with_reducible exact ih0 _ _ _)
      | (with_reducible exact foghornref04_All.mono _ _)
      | (with_reducible exact LeO.refl _)
      | (with_reducible exact LeO.none _)
      | (with_reducible refine LeO.ite ?_ ?_)
      | (with_reducible refine LeO.bind ?_ (fun _ => ?_))
      | exact ih0 _ _ _
      | exact foghornref04_All.mono _ _
      | exact LeO.none _
      | refine LeO.ite ?_ ?_
      | refine LeO.bind ?_ (fun _ => ?_)

/-! ### foghornref05_Decide: function 52 -/
mutual
def foghornref05_Decide.j0 : Nat → Int → (Nat × Nat) → Int → Bool → Option (Int × (Nat × Nat) × Bool × Int)
  | 0, _, _, _, _ => none
  | k + 1, x0, x1, x6, x38 => if x38 = true then (some (0, (0, 0), true, 0)) else (if x0 = 32 then (foghornref05_Decide.j1 k x0 x1 x6 false) else (foghornref05_Decide.j1 k x0 x1 x6 (x0 != 128)))
def foghornref05_Decide.j1 : Nat → Int → (Nat × Nat) → Int → Bool → Option (Int × (Nat × Nat) × Bool × Int)
  | 0, _, _, _, _ => none
  | k + 1, x0, x1, x6, x45 => if x45 = true then ((foghornref05_Axis.f k x1.1 x6).bind fun bt566 => ((foghornref05_Axis.f k x1.2 x6).bind fun bt568 => ((foghornref04_Label.f k x0 (floatOfInt .f64 bt566.1, floatOfInt .f64 bt568.1)).bind fun bt570 => (some (bt570.1, (floatOfInt .f64 bt566.1, floatOfInt .f64 bt568.1), false, 0))))) else ((foghornref04_All.f k x0).bind fun bt572 => ((foghornref05_Cut.f k x0 x1).bind fun bt576 => (foghornref05_Decide.l0 k bt572.1 bt576.1 0 1)))
def foghornref05_Decide.l0 : Nat → List (Nat × Nat) → (Nat × Nat) → Int → Int → Option (Int × (Nat × Nat) × Bool × Int)
  | 0, _, _, _, _ => none
  | k + 1, x15, x17, x19, x20 => if x20 < (x15.length : Int) then (if 0 ≤ x20 then ((foghornref05_gap.f x17 (rdOf (0, 0) x15 x20)).bind fun t580 => (if 0 ≤ x19 then (if x19 < (x15.length : Int) then ((foghornref05_gap.f x17 (rdOf (0, 0) x15 x19)).bind fun t582 => (if (FloatKind.f64.format.order t580 t582 == some .lt) = true then (foghornref05_Decide.l0 k x15 x17 x20 (wrap64 (x20 + 1))) else (foghornref05_Decide.l0 k x15 x17 x19 (wrap64 (x20 + 1))))) else (none)) else (none))) else (none)) else (if 0 ≤ x19 then (if x19 < (x15.length : Int) then (some (x19, rdOf (0, 0) x15 x19, false, 0)) else (none)) else (none))
end
def foghornref05_Decide.f (k : Nat) (a0 : Int) (a1 : (Nat × Nat)) : Option (Int × (Nat × Nat) × Bool × Int) := (foghornref04_Edge.f a0).bind fun bt562 => (if bt562.2 = 0 then ((foghornref02_Finite.f a1.1).bind fun t564 => (if t564 = true then ((foghornref02_Finite.f a1.2).bind fun t565 => (foghornref05_Decide.j0 k a0 a1 bt562.1 (!t565))) else (foghornref05_Decide.j0 k a0 a1 bt562.1 true))) else (some (0, (0, 0), false, 1)))
theorem foghornref05_Decide.mono_l : ∀ k, (∀ y0 y1 y2 y3, LeO (foghornref05_Decide.j0 k y0 y1 y2 y3) (foghornref05_Decide.j0 (k + 1) y0 y1 y2 y3)) ∧ (∀ y0 y1 y2 y3, LeO (foghornref05_Decide.j1 k y0 y1 y2 y3) (foghornref05_Decide.j1 (k + 1) y0 y1 y2 y3)) ∧ (∀ y0 y1 y2 y3, LeO (foghornref05_Decide.l0 k y0 y1 y2 y3) (foghornref05_Decide.l0 (k + 1) y0 y1 y2 y3))
  | 0 => ⟨fun _ _ _ _ r h => by simp [foghornref05_Decide.j0] at h, fun _ _ _ _ r h => by simp [foghornref05_Decide.j1] at h, fun _ _ _ _ r h => by simp [foghornref05_Decide.l0] at h⟩
  | k + 1 => by
    obtain ⟨ih0, ih1, ih2⟩ := foghornref05_Decide.mono_l k
    refine ⟨?_, ?_, ?_⟩
    · intro y0 y1 y2 y3
      unfold foghornref05_Decide.j0
      repeat' first
      | (with_reducible exact ih0 _ _ _ _)
      | (with_reducible exact ih1 _ _ _ _)
      | (with_reducible exact ih2 _ _ _ _)
      | (with_reducible exact foghornref04_All.mono _ _)
      | (with_reducible exact foghornref04_Label.mono _ _ _)
      | (with_reducible exact foghornref05_Axis.mono _ _ _)
      | (with_reducible exact foghornref05_Cut.mono _ _ _)
      | (with_reducible exact LeO.refl _)
      | (with_reducible exact LeO.none _)
      | (with_reducible refine LeO.ite ?_ ?_)
      | (with_reducible refine LeO.bind ?_ (fun _ => ?_))
      | exact ih0 _ _ _ _
      | exact ih1 _ _ _ _
      | exact ih2 _ _ _ _
      | exact foghornref04_All.mono _ _
      | exact foghornref04_Label.mono _ _ _
      | exact foghornref05_Axis.mono _ _ _
      | exact foghornref05_Cut.mono _ _ _
      | exact LeO.none _
      | refine LeO.ite ?_ ?_
      | refine LeO.bind ?_ (fun _ => ?_)
    · intro y0 y1 y2 y3
      unfold foghornref05_Decide.j1
      repeat' first
      | (with_reducible exact ih0 _ _ _ _)
      | (with_reducible exact ih1 _ _ _ _)
      | (with_reducible exact ih2 _ _ _ _)
      | (with_reducible exact foghornref04_All.mono _ _)
      | (with_reducible exact foghornref04_Label.mono _ _ _)
      | (with_reducible exact foghornref05_Axis.mono _ _ _)
      | (with_reducible exact foghornref05_Cut.mono _ _ _)
      | (with_reducible exact LeO.refl _)
      | (with_reducible exact LeO.none _)
      | (with_reducible refine LeO.ite ?_ ?_)
      | (with_reducible refine LeO.bind ?_ (fun _ => ?_))
      | exact ih0 _ _ _ _
      | exact ih1 _ _ _ _
      | exact ih2 _ _ _ _
      | exact foghornref04_All.mono _ _
      | exact foghornref04_Label.mono _ _ _
      | exact foghornref05_Axis.mono _ _ _
      | exact foghornref05_Cut.mono _ _ _
      | exact LeO.none _
      | refine LeO.ite ?_ ?_
      | refine LeO.bind ?_ (fun _ => ?_)
    · intro y0 y1 y2 y3
      unfold foghornref05_Decide.l0
      repeat' first
      | (with_reducible exact ih0 _ _ _ _)
      | (with_reducible exact ih1 _ _ _ _)
      | (with_reducible exact ih2 _ _ _ _)
      | (with_reducible exact foghornref04_All.mono _ _)
      | (with_reducible exact foghornref04_Label.mono _ _ _)
      | (with_reducible exact foghornref05_Axis.mono _ _ _)
      | (with_reducible exact foghornref05_Cut.mono _ _ _)
      | (with_reducible exact LeO.refl _)
      | (with_reducible exact LeO.none _)
      | (with_reducible refine LeO.ite ?_ ?_)
      | (with_reducible refine LeO.bind ?_ (fun _ => ?_))
      | exact ih0 _ _ _ _
      | exact ih1 _ _ _ _
      | exact ih2 _ _ _ _
      | exact foghornref04_All.mono _ _
      | exact foghornref04_Label.mono _ _ _
      | exact foghornref05_Axis.mono _ _ _
      | exact foghornref05_Cut.mono _ _ _
      | exact LeO.none _
      | refine LeO.ite ?_ ?_
      | refine LeO.bind ?_ (fun _ => ?_)
theorem foghornref05_Decide.mono : ∀ a0 a1 k, LeO (foghornref05_Decide.f k a0 a1) (foghornref05_Decide.f (k + 1) a0 a1) := by
  intro a0 a1 k
  obtain ⟨ih0, ih1, ih2⟩ := foghornref05_Decide.mono_l k
  unfold foghornref05_Decide.f
  repeat' first
      | (with_reducible exact ih0 _ _ _ _)
      | (with_reducible exact ih1 _ _ _ _)
      | (with_reducible exact ih2 _ _ _ _)
      | (with_reducible exact foghornref04_All.mono _ _)
      | (with_reducible exact foghornref04_Label.mono _ _ _)
      | (with_reducible exact foghornref05_Axis.mono _ _ _)
      | (with_reducible exact foghornref05_Cut.mono _ _ _)
      | (with_reducible exact LeO.refl _)
      | (with_reducible exact LeO.none _)
      | (with_reducible refine LeO.ite ?_ ?_)
      | (with_reducible refine LeO.bind ?_ (fun _ => ?_))
      | exact ih0 _ _ _ _
      | exact ih1 _ _ _ _
      | exact ih2 _ _ _ _
      | exact foghornref04_All.mono _ _
      | exact foghornref04_Label.mono _ _ _
      | exact foghornref05_Axis.mono _ _ _
      | exact foghornref05_Cut.mono _ _ _
      | exact LeO.none _
      | refine LeO.ite ?_ ?_
      | refine LeO.bind ?_ (fun _ => ?_)
def foghornref05_Decide.T18 : Bool × List (List Nat × List Nat) := (true, [([], []), ([], []), ([], []), ([1, 2], [1, 2]), ([3], [3]), ([0, 4], [0, 4]), ([], []), ([], []), ([], []), ([7, 8], [7, 8]), ([9], [9]), ([6, 10, 5], [6, 10]), ([5, 11], [5, 11])])
def foghornref05_Decide.B18 : List Nat := [0, 0, 0, 6, 14, 31, 0, 0, 0, 384, 896, 2047, 4095]
theorem foghornref05_Decide.tab18 : rtab .any (opsOf Try.f52 18) = foghornref05_Decide.T18 := by kernel_rfl
theorem foghornref05_Decide.bits18 : waitsOk foghornref05_Decide.T18.2 foghornref05_Decide.B18 = true := by kernel_rfl

/-! ### points_Label: function 176 -/
def points_Label.l0 : Nat → (Nat × Nat) → List (Nat × Nat) → Int → Int → Option (Int × Int)
  | 0, _, _, _, _ => none
  | k + 1, x1, x18, x19, x20 => if x20 < x19 then (if 0 ≤ x20 then (if x20 < (x18.length : Int) then (if ((FloatKind.f64.format.order ((rdOf (0, 0) x18 x20).1) x1.1 == some .eq) && (FloatKind.f64.format.order ((rdOf (0, 0) x18 x20).2) x1.2 == some .eq)) = true then (some (x20, 0)) else (points_Label.l0 k x1 x18 x19 (wrap64 (x20 + 1)))) else (none)) else (none)) else (some (0, 6))
def points_Label.f (k : Nat) (a0 : Int) (a1 : (Nat × Nat)) : Option (Int × Int) := (points_All.f a0).bind fun bt583 => (if bt583.2 = 0 then (points_Label.l0 k a1 bt583.1 (bt583.1.length : Int) 0) else (some (0, bt583.2)))
theorem points_Label.mono_l : ∀ k, (∀ y0 y1 y2 y3, LeO (points_Label.l0 k y0 y1 y2 y3) (points_Label.l0 (k + 1) y0 y1 y2 y3))
  | 0 => fun _ _ _ _ r h => by simp [points_Label.l0] at h
  | k + 1 => by
    have ih0 := points_Label.mono_l k
    · intro y0 y1 y2 y3
      unfold points_Label.l0
      repeat' first
      | (with_reducible exact ih0 _ _ _ _)
      | (with_reducible exact LeO.refl _)
      | (with_reducible exact LeO.none _)
      | (with_reducible refine LeO.ite ?_ ?_)
      | (with_reducible refine LeO.bind ?_ (fun _ => ?_))
      | exact ih0 _ _ _ _
      | exact LeO.none _
      | refine LeO.ite ?_ ?_
      | refine LeO.bind ?_ (fun _ => ?_)
theorem points_Label.mono : ∀ a0 a1 k, LeO (points_Label.f k a0 a1) (points_Label.f (k + 1) a0 a1) := by
  intro a0 a1 k
  have ih0 := points_Label.mono_l k
  unfold points_Label.f
  repeat' first
      | (with_reducible exact ih0 _ _ _ _)
      | (with_reducible exact LeO.refl _)
      | (with_reducible exact LeO.none _)
      | (with_reducible refine LeO.ite ?_ ?_)
      | (with_reducible refine LeO.bind ?_ (fun _ => ?_))
      | exact ih0 _ _ _ _
      | exact LeO.none _
      | refine LeO.ite ?_ ?_
      | refine LeO.bind ?_ (fun _ => ?_)

/-! ### slice_axes: function 166 -/
def slice_axes.f (k : Nat) (a0 : Int) (a1 : Int) (a2 : (Nat × Nat)) : Option (Int × (Nat × Nat) × Bool) := (slice_Axis.f k a2.1 a1).bind fun bt589 => ((slice_Axis.f k a2.2 a1).bind fun bt591 => ((points_Label.f k a0 (floatOfInt .f64 bt589.1, floatOfInt .f64 bt591.1)).bind fun bt593 => (some (bt593.1, (floatOfInt .f64 bt589.1, floatOfInt .f64 bt591.1), false))))
theorem slice_axes.mono : ∀ a0 a1 a2 k, LeO (slice_axes.f k a0 a1 a2) (slice_axes.f (k + 1) a0 a1 a2) := by
  intro a0 a1 a2 k
  unfold slice_axes.f
  repeat' first
      | (with_reducible exact points_Label.mono _ _ _)
      | (with_reducible exact slice_Axis.mono _ _ _)
      | (with_reducible exact LeO.refl _)
      | (with_reducible exact LeO.none _)
      | (with_reducible refine LeO.ite ?_ ?_)
      | (with_reducible refine LeO.bind ?_ (fun _ => ?_))
      | exact points_Label.mono _ _ _
      | exact slice_Axis.mono _ _ _
      | exact LeO.none _
      | refine LeO.ite ?_ ?_
      | refine LeO.bind ?_ (fun _ => ?_)

/-! ### slice_nearest: function 167 -/
def slice_nearest.l0 : Nat → (Nat × Nat) → Nat → List (Nat × Nat) → Int → Int → Int → (Nat × Nat) → Bool → Option (Int × (Nat × Nat) × Bool)
  | 0, _, _, _, _, _, _, _, _ => none
  | k + 1, x2, x10, x24, x25, x26, x603000, x603001, x603002 => if x26 < x25 then (if 0 ≤ x26 then (if x26 < (x24.length : Int) then ((slice_gap.f x2 (rdOf (0, 0) x24 x26)).bind fun t604 => (if (FloatKind.f64.format.order t604 x10 == some .lt) = true then (slice_nearest.l0 k x2 t604 x24 x25 (wrap64 (x26 + 1)) x26 (rdOf (0, 0) x24 x26) false) else (slice_nearest.l0 k x2 x10 x24 x25 (wrap64 (x26 + 1)) x603000 x603001 x603002))) else (none)) else (none)) else (some (x603000, x603001, x603002))
def slice_nearest.f (k : Nat) (a0 : Int) (a1 : Int) (a2 : (Nat × Nat)) : Option (Int × (Nat × Nat) × Bool) := (points_All.f a0).bind fun bt596 => ((slice_cut.f a2 a1).bind fun t600 => ((math_Inf.f 1).bind fun t601 => (slice_nearest.l0 k t600 t601 bt596.1 (bt596.1.length : Int) 0 0 (0, 0) false)))
theorem slice_nearest.mono_l : ∀ k, (∀ y0 y1 y2 y3 y4 y5 y6 y7, LeO (slice_nearest.l0 k y0 y1 y2 y3 y4 y5 y6 y7) (slice_nearest.l0 (k + 1) y0 y1 y2 y3 y4 y5 y6 y7))
  | 0 => fun _ _ _ _ _ _ _ _ r h => by simp [slice_nearest.l0] at h
  | k + 1 => by
    have ih0 := slice_nearest.mono_l k
    · intro y0 y1 y2 y3 y4 y5 y6 y7
      unfold slice_nearest.l0
      repeat' first
      | (with_reducible exact ih0 _ _ _ _ _ _ _ _)
      | (with_reducible exact LeO.refl _)
      | (with_reducible exact LeO.none _)
      | (with_reducible refine LeO.ite ?_ ?_)
      | (with_reducible refine LeO.bind ?_ (fun _ => ?_))
      | exact ih0 _ _ _ _ _ _ _ _
      | exact LeO.none _
      | refine LeO.ite ?_ ?_
      | refine LeO.bind ?_ (fun _ => ?_)
theorem slice_nearest.mono : ∀ a0 a1 a2 k, LeO (slice_nearest.f k a0 a1 a2) (slice_nearest.f (k + 1) a0 a1 a2) := by
  intro a0 a1 a2 k
  have ih0 := slice_nearest.mono_l k
  unfold slice_nearest.f
  repeat' first
      | (with_reducible exact ih0 _ _ _ _ _ _ _ _)
      | (with_reducible exact LeO.refl _)
      | (with_reducible exact LeO.none _)
      | (with_reducible refine LeO.ite ?_ ?_)
      | (with_reducible refine LeO.bind ?_ (fun _ => ?_))
      | exact ih0 _ _ _ _ _ _ _ _
      | exact LeO.none _
      | refine LeO.ite ?_ ?_
      | refine LeO.bind ?_ (fun _ => ?_)

/-! ### slice_ways: function 154 -/
def slice_ways.f : Option Int := none

/-! ### slice_decide: function 126 -/
def slice_decide.f (k : Nat) (a0 : Int) (a1 : Int) (a2 : (Nat × Nat)) : Option (Int × (Nat × Nat) × Bool) :=
  (slice_nan.f a2).bind fun n => if n = true then some (0, (0, 0), true) else (math_IsInf.f a2.1 0).bind fun i => if i = true then some (0, (0, 0), true) else (math_IsInf.f a2.2 0).bind fun j => if j = true then some (0, (0, 0), true) else
    if a0 = 32 ∨ a0 = 128 then slice_nearest.f k a0 a1 a2 else if a0 = 4 ∨ a0 = 16 ∨ a0 = 64 ∨ a0 = 256 then slice_axes.f k a0 a1 a2 else none
theorem slice_decide.mono : ∀ a0 a1 a2 k, LeO (slice_decide.f k a0 a1 a2) (slice_decide.f (k + 1) a0 a1 a2) := fun a0 a1 a2 k =>
  LeO.bind (LeO.refl _) fun _ => LeO.ite (LeO.refl _) (LeO.bind (LeO.refl _) fun _ => LeO.ite (LeO.refl _) (LeO.bind (LeO.refl _) fun _ => LeO.ite (LeO.refl _) (LeO.ite (slice_nearest.mono a0 a1 a2 k) (LeO.ite (slice_axes.mono a0 a1 a2 k) (LeO.refl _)))))

/-! ### slice_Decide: function 53 -/
def slice_Decide.f (k : Nat) (a0 : Int) (a1 : (Nat × Nat)) : Option (Int × (Nat × Nat) × Bool × Int) := (points_Edge.f a0).bind fun bt606 => (if bt606.2 = 0 then ((slice_decide.f k a0 bt606.1 a1).bind fun bt608 => (some (bt608.1, bt608.2.1, bt608.2.2, 0))) else (some (0, (0, 0), false, 1)))
theorem slice_Decide.mono : ∀ a0 a1 k, LeO (slice_Decide.f k a0 a1) (slice_Decide.f (k + 1) a0 a1) := by
  intro a0 a1 k
  unfold slice_Decide.f
  repeat' first
      | (with_reducible exact slice_decide.mono _ _ _ _)
      | (with_reducible exact LeO.refl _)
      | (with_reducible exact LeO.none _)
      | (with_reducible refine LeO.ite ?_ ?_)
      | (with_reducible refine LeO.bind ?_ (fun _ => ?_))
      | exact slice_decide.mono _ _ _ _
      | exact LeO.none _
      | refine LeO.ite ?_ ?_
      | refine LeO.bind ?_ (fun _ => ?_)

/-! ### foghornlaw05_alike: function 54 -/
def foghornlaw05_alike.f (a0_0 : Int) (a0_1 : (Nat × Nat)) (a0_2 : Bool) (a1_0 : Int) (a1_1 : (Nat × Nat)) (a1_2 : Bool) : Option (Bool) := if a0_0 = a1_0 then (if ((FloatKind.f64.format.order a0_1.1 a1_1.1 == some .eq) && (FloatKind.f64.format.order a0_1.2 a1_1.2 == some .eq)) = true then (some (a0_2 == a1_2)) else (some false)) else (some false)

/-! ### foghornlaw05_SliceDecides: function 8 -/
def foghornlaw05_SliceDecides.f (k : Nat) (a0 : Int) (a1 : Int) (a2 : Int) : Option (Bool) := (foghornlaw05_number.f a0 a1).bind fun t613 => ((foghornref05_Decide.f k a2 t613).bind fun bt614 => ((foghornlaw05_number.f a0 a1).bind fun t619 => ((slice_Decide.f k a2 t619).bind fun bt620 => (if bt614.2.2.2 = bt620.2.2.2 then ((foghornlaw05_alike.f bt620.1 bt620.2.1 bt620.2.2.1 bt614.1 bt614.2.1 bt614.2.2.1).bind fun t625 => (some t625)) else (some false)))))
theorem foghornlaw05_SliceDecides.mono : ∀ a0 a1 a2 k, LeO (foghornlaw05_SliceDecides.f k a0 a1 a2) (foghornlaw05_SliceDecides.f (k + 1) a0 a1 a2) := by
  intro a0 a1 a2 k
  unfold foghornlaw05_SliceDecides.f
  repeat' first
      | (with_reducible exact foghornref05_Decide.mono _ _ _)
      | (with_reducible exact slice_Decide.mono _ _ _)
      | (with_reducible exact LeO.refl _)
      | (with_reducible exact LeO.none _)
      | (with_reducible refine LeO.ite ?_ ?_)
      | (with_reducible refine LeO.bind ?_ (fun _ => ?_))
      | exact foghornref05_Decide.mono _ _ _
      | exact slice_Decide.mono _ _ _
      | exact LeO.none _
      | refine LeO.ite ?_ ?_
      | refine LeO.bind ?_ (fun _ => ?_)
/-- THE ONE PURE STATEMENT of foghornlaw05_SliceDecides: yours. -/
def foghornlaw05_SliceDecides.Pure : Prop := ∀ (a0 : Int) (a1 : Int) (a2 : Int), (Lit.int .u64 a0).wf = true → (Lit.int .u64 a1).wf = true → (Lit.int .i64 a2).wf = true → ∃ k, foghornlaw05_SliceDecides.f k a0 a1 a2 = some true

end Go.Proofs.Ythfcafllcgjepaa.Q
