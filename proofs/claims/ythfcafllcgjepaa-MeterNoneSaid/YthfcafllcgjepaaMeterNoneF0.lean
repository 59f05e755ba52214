-- Printed by myprint.py (ours) over the kit's printer, out of the translation.
import Derived.Test.YthfcafllcgjepaaMeterNoneK0
namespace Go.Proofs.Ythfcafllcgjepaa.Q
open Go.RowKit Go.Proofs.YthfcafllcgjepaaW.PrintWords Go.Proofs.YthfcafllcgjepaaW.PrintLast Go.Proofs.YthfcafllcgjepaaW.PrintMore
attribute [local go_sem] ArrW.ptrOf_slice unary_neg_float unary_neg_complex run_store_float run_store_complex max2_int min2_int max_two min_two max_three min_three max_four min_four   -- for this text's walks alone
set_option linter.unusedVariables false
set_option linter.unusedSimpArgs false

/-! ### bits_Ungray: function 169 -/
mutual
def bits_Ungray.j0 : Nat → Int → Bool → Option (Int × Int)
  | 0, _, _ => none
  | k + 1, x0, x10 => if x10 = true then (some (0, 1)) else (bits_Ungray.l0 k x0 1)
def bits_Ungray.l0 : Nat → Int → Int → Option (Int × Int)
  | 0, _, _ => none
  | k + 1, x0, x4 => if x4 < 16 then (if 0 ≤ x4 then (bits_Ungray.l0 k (Go.bits .xor .i64 x0 (shr .i64 x0 x4)) (wrap64 (x4 * 2))) else (none)) else (some (x0, 0))
end
def bits_Ungray.f (k : Nat) (a0 : Int) : Option (Int × Int) := if a0 < 0 then (bits_Ungray.j0 k a0 true) else (bits_Ungray.j0 k a0 (decide (a0 ≥ 65536)))
theorem bits_Ungray.mono_l : ∀ k, (∀ y0 y1, LeO (bits_Ungray.j0 k y0 y1) (bits_Ungray.j0 (k + 1) y0 y1)) ∧ (∀ y0 y1, LeO (bits_Ungray.l0 k y0 y1) (bits_Ungray.l0 (k + 1) y0 y1))
  | 0 => ⟨fun _ _ r h => by simp [bits_Ungray.j0] at h, fun _ _ r h => by simp [bits_Ungray.l0] at h⟩
  | k + 1 => by
    obtain ⟨ih0, ih1⟩ := bits_Ungray.mono_l k
    refine ⟨?_, ?_⟩
    · intro y0 y1
      unfold bits_Ungray.j0
      repeat' first
      | (with_reducible exact ih0 _ _)
      | (with_reducible exact ih1 _ _)
      | (with_reducible exact LeO.refl _)
      | (with_reducible exact LeO.none _)
      | (with_reducible refine LeO.ite ?_ ?_)
      | (with_reducible refine LeO.bind ?_ (fun _ => ?_))
      | exact ih0 _ _
      | exact ih1 _ _
      | exact LeO.none _
      | refine LeO.ite ?_ ?_
      | refine LeO.bind ?_ (fun _ => ?_)
    · intro y0 y1
      unfold bits_Ungray.l0
      repeat' first
      | (with_reducible exact ih0 _ _)
      | (with_reducible exact ih1 _ _)
      | (with_reducible exact LeO.refl _)
      | (with_reducible exact LeO.none _)
      | (with_reducible refine LeO.ite ?_ ?_)
      | (with_reducible refine LeO.bind ?_ (fun _ => ?_))
      | exact ih0 _ _
      | exact ih1 _ _
      | exact LeO.none _
      | refine LeO.ite ?_ ?_
      | refine LeO.bind ?_ (fun _ => ?_)
theorem bits_Ungray.mono : ∀ a0 k, LeO (bits_Ungray.f k a0) (bits_Ungray.f (k + 1) a0) := by
  intro a0 k
  obtain ⟨ih0, ih1⟩ := bits_Ungray.mono_l k
  unfold bits_Ungray.f
  repeat' first
      | (with_reducible exact ih0 _ _)
      | (with_reducible exact ih1 _ _)
      | (with_reducible exact LeO.refl _)
      | (with_reducible exact LeO.none _)
      | (with_reducible refine LeO.ite ?_ ?_)
      | (with_reducible refine LeO.bind ?_ (fun _ => ?_))
      | exact ih0 _ _
      | exact ih1 _ _
      | exact LeO.none _
      | refine LeO.ite ?_ ?_
      | refine LeO.bind ?_ (fun _ => ?_)

/-! ### foghornref11_step: function 142 -/
def foghornref11_step.f (a0 : Nat) : Option (Bool) := if (FloatKind.f64.format.order a0 13830554455654793216 == some .gt || FloatKind.f64.format.order a0 13830554455654793216 == some .eq) = true then (if (FloatKind.f64.format.order a0 4607182418800017408 == some .lt || FloatKind.f64.format.order a0 4607182418800017408 == some .eq) = true then ((floatBits .mul .f64 a0 4634204016564240384).bind fun t133 => ((floatToIntVal .f64 t133 .i64).bind fun t134 => (some (FloatKind.f64.format.order (floatOfInt .f64 t134) t133 == some .eq)))) else (some false)) else (some false)

/-! ### foghornref11_size: function 143 -/
def foghornref11_size.f (a0 : Nat) : Option (Nat) := if (FloatKind.f64.format.order a0 0 == some .lt) = true then (some (Op.negFloat .f64 a0)) else (some a0)

/-! ### foghornref11_Taps: function 102 -/
mutual
def foghornref11_Taps.j0 : Nat → List (Nat × Nat) → Bool → Option (Bool)
  | 0, _, _ => none
  | k + 1, x0, x12 => if x12 = true then (some false) else (foghornref11_Taps.l0 k x0 0 0)
def foghornref11_Taps.l0 : Nat → List (Nat × Nat) → Nat → Int → Option (Bool)
  | 0, _, _, _ => none
  | k + 1, x0, x3, x4 => if x4 < (x0.length : Int) then (if 0 ≤ x4 then ((foghornref11_step.f ((rdOf (0, 0) x0 x4).1)).bind fun t136 => (if t136 = true then ((foghornref11_step.f ((rdOf (0, 0) x0 x4).2)).bind fun t138 => (foghornref11_Taps.j2 k x0 x3 x4 (!t138))) else (foghornref11_Taps.j2 k x0 x3 x4 true))) else (none)) else (some (FloatKind.f64.format.order x3 4616189618054758400 == some .lt || FloatKind.f64.format.order x3 4616189618054758400 == some .eq))
def foghornref11_Taps.j2 : Nat → List (Nat × Nat) → Nat → Int → Bool → Option (Bool)
  | 0, _, _, _, _ => none
  | k + 1, x0, x3, x4, x34 => if x34 = true then (some false) else (if 0 ≤ x4 then (if x4 < (x0.length : Int) then ((foghornref11_size.f ((rdOf (0, 0) x0 x4).1)).bind fun t140 => ((floatBits .add .f64 x3 t140).bind fun t141 => ((foghornref11_size.f ((rdOf (0, 0) x0 x4).2)).bind fun t143 => ((floatBits .add .f64 t141 t143).bind fun t144 => (foghornref11_Taps.l0 k x0 t144 (wrap64 (x4 + 1))))))) else (none)) else (none))
end
def foghornref11_Taps.f (k : Nat) (l0 : List (Nat × Nat)) : Option (Bool) := if (l0.length : Int) < 1 then (foghornref11_Taps.j0 k l0 true) else (foghornref11_Taps.j0 k l0 (decide ((l0.length : Int) > 64)))
theorem foghornref11_Taps.mono_l : ∀ k, (∀ y0 y1, LeO (foghornref11_Taps.j0 k y0 y1) (foghornref11_Taps.j0 (k + 1) y0 y1)) ∧ (∀ y0 y1 y2, LeO (foghornref11_Taps.l0 k y0 y1 y2) (foghornref11_Taps.l0 (k + 1) y0 y1 y2)) ∧ (∀ y0 y1 y2 y3, LeO (foghornref11_Taps.j2 k y0 y1 y2 y3) (foghornref11_Taps.j2 (k + 1) y0 y1 y2 y3))
  | 0 => ⟨fun _ _ r h => by simp [foghornref11_Taps.j0] at h, fun _ _ _ r h => by simp [foghornref11_Taps.l0] at h, fun _ _ _ _ r h => by simp [foghornref11_Taps.j2] at h⟩
  | k + 1 => by
    obtain ⟨ih0, ih1, ih2⟩ := foghornref11_Taps.mono_l k
    refine ⟨?_, ?_, ?_⟩
    · intro y0 y1
      unfold foghornref11_Taps.j0
      repeat' first
      | (with_reducible exact ih0 _ _)
      | (with_reducible exact ih1 _ _ _)
      | (with_reducible exact ih2 _ _ _ _)
      | (with_reducible exact LeO.refl _)
      | (with_reducible exact LeO.none _)
      | (with_reducible refine LeO.ite ?_ ?_)
      | (with_reducible refine LeO.bind ?_ (fun _ => ?_))
      | exact ih0 _ _
      | exact ih1 _ _ _
      | exact ih2 _ _ _ _
      | exact LeO.none _
      | refine LeO.ite ?_ ?_
      | refine LeO.bind ?_ (fun _ => ?_)
    · intro y0 y1 y2
      unfold foghornref11_Taps.l0
      repeat' first
      | (with_reducible exact ih0 _ _)
      | (with_reducible exact ih1 _ _ _)
      | (with_reducible exact ih2 _ _ _ _)
      | (with_reducible exact LeO.refl _)
      | (with_reducible exact LeO.none _)
      | (with_reducible refine LeO.ite ?_ ?_)
      | (with_reducible refine LeO.bind ?_ (fun _ => ?_))
      | exact ih0 _ _
      | exact ih1 _ _ _
      | exact ih2 _ _ _ _
      | exact LeO.none _
      | refine LeO.ite ?_ ?_
      | refine LeO.bind ?_ (fun _ => ?_)
    · intro y0 y1 y2 y3
      unfold foghornref11_Taps.j2
      repeat' first
      | (with_reducible exact ih0 _ _)
      | (with_reducible exact ih1 _ _ _)
      | (with_reducible exact ih2 _ _ _ _)
      | (with_reducible exact LeO.refl _)
      | (with_reducible exact LeO.none _)
      | (with_reducible refine LeO.ite ?_ ?_)
      | (with_reducible refine LeO.bind ?_ (fun _ => ?_))
      | exact ih0 _ _
      | exact ih1 _ _ _
      | exact ih2 _ _ _ _
      | exact LeO.none _
      | refine LeO.ite ?_ ?_
      | refine LeO.bind ?_ (fun _ => ?_)
theorem foghornref11_Taps.mono : ∀ a0 k, LeO (foghornref11_Taps.f k a0) (foghornref11_Taps.f (k + 1) a0) := by
  intro a0 k
  obtain ⟨ih0, ih1, ih2⟩ := foghornref11_Taps.mono_l k
  unfold foghornref11_Taps.f
  repeat' first
      | (with_reducible exact ih0 _ _)
      | (with_reducible exact ih1 _ _ _)
      | (with_reducible exact ih2 _ _ _ _)
      | (with_reducible exact LeO.refl _)
      | (with_reducible exact LeO.none _)
      | (with_reducible refine LeO.ite ?_ ?_)
      | (with_reducible refine LeO.bind ?_ (fun _ => ?_))
      | exact ih0 _ _
      | exact ih1 _ _ _
      | exact ih2 _ _ _ _
      | exact LeO.none _
      | refine LeO.ite ?_ ?_
      | refine LeO.bind ?_ (fun _ => ?_)

/-! ### foghornref02_On: function 103 -/
def foghornref02_On.f (a0 : Nat) : Option (Bool) := if (FloatKind.f64.format.order a0 13875590451928498176 == some .gt || FloatKind.f64.format.order a0 13875590451928498176 == some .eq) = true then (if ((FloatKind.f64.format.order a0 4652218415073722368 == some .lt || FloatKind.f64.format.order a0 4652218415073722368 == some .eq) = true) then ((floatBits .mul .f64 a0 4661225614328463360).bind fun t145 => ((floatToIntVal .f64 t145 .i64).bind fun t146 => (some (FloatKind.f64.format.order (floatOfInt .f64 t146) t145 == some .eq)))) else (some false)) else (some false)

/-! ### math_Abs: function 131 -/
def math_Abs.f (a0 : Nat) : Option (Nat) := some ((Go.bits .andNot .u64 (a0 : Int) 9223372036854775808).toNat)

/-! ### math_Floor: function 146 -/
def math_Floor.f (a0 : Nat) : Option (Nat) := (integF .down a0).bind fun t183 => (some t183)

/-! ### feedback_step: function 144 -/
def feedback_step.f (a0 : Nat) : Option (Bool) := (math_Abs.f a0).bind fun t184 => (if (FloatKind.f64.format.order t184 4607182418800017408 == some .lt || FloatKind.f64.format.order t184 4607182418800017408 == some .eq) = true then ((floatBits .mul .f64 a0 4634204016564240384).bind fun t185 => ((math_Floor.f t185).bind fun t186 => (some (FloatKind.f64.format.order t186 t185 == some .eq)))) else (some false))

/-! ### feedback_taps: function 105 -/
mutual
def feedback_taps.l0 : Nat → List (Nat × Nat) → Nat → List (Nat × Nat) → Int → Int → Option (Bool)
  | 0, _, _, _, _, _ => none
  | k + 1, x0, x3, x6, x7, x8 => if x8 < x7 then (if 0 ≤ x8 then (if x8 < (x6.length : Int) then ((feedback_step.f ((rdOf (0, 0) x6 x8).1)).bind fun t188 => (if t188 = true then ((feedback_step.f ((rdOf (0, 0) x6 x8).2)).bind fun t189 => (feedback_taps.j1 k x0 x3 (rdOf (0, 0) x6 x8) x6 x7 x8 (!t189))) else (feedback_taps.j1 k x0 x3 (rdOf (0, 0) x6 x8) x6 x7 x8 true))) else (none)) else (none)) else (if (x0.length : Int) > 0 then (if (x0.length : Int) ≤ 64 then (some (FloatKind.f64.format.order x3 4616189618054758400 == some .lt || FloatKind.f64.format.order x3 4616189618054758400 == some .eq)) else (some false)) else (some false))
def feedback_taps.j1 : Nat → List (Nat × Nat) → Nat → (Nat × Nat) → List (Nat × Nat) → Int → Int → Bool → Option (Bool)
  | 0, _, _, _, _, _, _, _ => none
  | k + 1, x0, x3, x5, x6, x7, x8, x21 => if x21 = true then (some false) else ((math_Abs.f x5.1).bind fun t190 => ((math_Abs.f x5.2).bind fun t191 => ((floatBits .add .f64 t190 t191).bind fun t192 => ((floatBits .add .f64 x3 t192).bind fun t193 => (feedback_taps.l0 k x0 t193 x6 x7 (wrap64 (x8 + 1)))))))
end
def feedback_taps.f (k : Nat) (l0 : List (Nat × Nat)) : Option (Bool) := feedback_taps.l0 k l0 0 l0 (l0.length : Int) 0
theorem feedback_taps.mono_l : ∀ k, (∀ y0 y1 y2 y3 y4, LeO (feedback_taps.l0 k y0 y1 y2 y3 y4) (feedback_taps.l0 (k + 1) y0 y1 y2 y3 y4)) ∧ (∀ y0 y1 y2 y3 y4 y5 y6, LeO (feedback_taps.j1 k y0 y1 y2 y3 y4 y5 y6) (feedback_taps.j1 (k + 1) y0 y1 y2 y3 y4 y5 y6))
  | 0 => ⟨fun _ _ _ _ _ r h => by simp [feedback_taps.l0] at h, fun _ _ _ _ _ _ _ r h => by simp [feedback_taps.j1] at h⟩
  | k + 1 => by
    obtain ⟨ih0, ih1⟩ := feedback_taps.mono_l k
    refine ⟨?_, ?_⟩
    · intro y0 y1 y2 y3 y4
      unfold feedback_taps.l0
      repeat' first
      | (with_reducible exact ih0 _ _ _ _ _)
      | (with_reducible exact ih1 _ _ _ _ _ _ _)
      | (with_reducible exact LeO.refl _)
      | (with_reducible exact LeO.none _)
      | (with_reducible refine LeO.ite ?_ ?_)
      | (with_reducible refine LeO.bind ?_ (fun _ => ?_))
      | exact ih0 _ _ _ _ _
      | exact ih1 _ _ _ _ _ _ _
      | exact LeO.none _
      | refine LeO.ite ?_ ?_
      | refine LeO.bind ?_ (fun _ => ?_)
    · intro y0 y1 y2 y3 y4 y5 y6
      unfold feedback_taps.j1
      repeat' first
      | (with_reducible exact ih0 _ _ _ _ _)
      | (with_reducible exact ih1 _ _ _ _ _ _ _)
      | (with_reducible exact LeO.refl _)
      | (with_reducible exact LeO.none _)
      | (with_reducible refine LeO.ite ?_ ?_)
      | (with_reducible refine LeO.bind ?_ (fun _ => ?_))
      | exact ih0 _ _ _ _ _
      | exact ih1 _ _ _ _ _ _ _
      | exact LeO.none _
      | refine LeO.ite ?_ ?_
      | refine LeO.bind ?_ (fun _ => ?_)
theorem feedback_taps.mono : ∀ a0 k, LeO (feedback_taps.f k a0) (feedback_taps.f (k + 1) a0) := by
  intro a0 k
  obtain ⟨ih0, ih1⟩ := feedback_taps.mono_l k
  unfold feedback_taps.f
  repeat' first
      | (with_reducible exact ih0 _ _ _ _ _)
      | (with_reducible exact ih1 _ _ _ _ _ _ _)
      | (with_reducible exact LeO.refl _)
      | (with_reducible exact LeO.none _)
      | (with_reducible refine LeO.ite ?_ ?_)
      | (with_reducible refine LeO.bind ?_ (fun _ => ?_))
      | exact ih0 _ _ _ _ _
      | exact ih1 _ _ _ _ _ _ _
      | exact LeO.none _
      | refine LeO.ite ?_ ?_
      | refine LeO.bind ?_ (fun _ => ?_)

/-! ### grid_within: function 145 -/
def grid_within.f (a0 : Nat) : Option (Bool) := if (FloatKind.f64.format.order a0 13875590451928498176 == some .gt || FloatKind.f64.format.order a0 13875590451928498176 == some .eq) = true then (some (FloatKind.f64.format.order a0 4652218415073722368 == some .lt || FloatKind.f64.format.order a0 4652218415073722368 == some .eq)) else (some false)

/-! ### grid_On: function 106 -/
def grid_On.f (a0 : Nat) : Option (Bool) := (grid_within.f a0).bind fun t194 => (if t194 = true then ((floatBits .mul .f64 a0 4661225614328463360).bind fun t195 => ((math_Floor.f t195).bind fun t196 => (some (FloatKind.f64.format.order t196 t195 == some .eq)))) else (some false))

/-! ### foghornlaw30_lent: function 31 -/
def foghornlaw30_lent.f (l0 : List Bool) : Option (List Bool) := (some (([] : List Bool) : List Bool)).bind fun y291 => (if y291.length + l0.length < 140737488355328 then ((some (y291 ++ l0 : List Bool)).bind fun y294 => (if y294.length < 140737488355328 then (if (l0.length : Int) ≤ ((y294 ++ [true]).length : Int) then (some (y294)) else (none)) else (none))) else (none))

/-! ### meter_rows: function 109 -/
def meter_rows.f (l0 : List Bool) (l1 : List Bool) : Option (Bool) := if (l0.length : Int) ≤ 32768 then (some ((l0.length : Int) == (l1.length : Int))) else (some false)

/-! ### meter_Errors: function 32 -/
def meter_Errors.l0 : Nat → List Bool → List Bool → Int → Int → Int → Int → Option (Int × Int × Int)
  | 0, _, _, _, _, _, _ => none
  | k + 1, x0, x1, x4, x5, x13, x14 => if x14 < x13 then (if 0 ≤ x14 then (if x14 < (x0.length : Int) then (if x14 < (x1.length : Int) then (if ((rdOf false x0 x14) != (rdOf false x1 x14)) = true then (if x4 = 0 then (meter_Errors.l0 k x0 x1 (wrap64 (x4 + 1)) x14 x13 (wrap64 (x14 + 1))) else (meter_Errors.l0 k x0 x1 (wrap64 (x4 + 1)) x5 x13 (wrap64 (x14 + 1)))) else (meter_Errors.l0 k x0 x1 x4 x5 x13 (wrap64 (x14 + 1)))) else (none)) else (none)) else (none)) else (some (x4, x5, 0))
def meter_Errors.f (k : Nat) (l0 : List Bool) (l1 : List Bool) : Option (Int × Int × Int) := (meter_rows.f l0 l1).bind fun t303 => (if t303 = true then (meter_Errors.l0 k l0 l1 0 0 (l0.length : Int) 0) else (some (0, 0, 1)))
theorem meter_Errors.mono_l : ∀ k, (∀ y0 y1 y2 y3 y4 y5, LeO (meter_Errors.l0 k y0 y1 y2 y3 y4 y5) (meter_Errors.l0 (k + 1) y0 y1 y2 y3 y4 y5))
  | 0 => fun _ _ _ _ _ _ r h => by simp [meter_Errors.l0] at h
  | k + 1 => by
    have ih0 := meter_Errors.mono_l k
    · intro y0 y1 y2 y3 y4 y5
      unfold meter_Errors.l0
      repeat' first
      | (with_reducible exact ih0 _ _ _ _ _ _)
      | (with_reducible exact LeO.refl _)
      | (with_reducible exact LeO.none _)
      | (with_reducible refine LeO.ite ?_ ?_)
      | (with_reducible refine LeO.bind ?_ (fun _ => ?_))
      | exact ih0 _ _ _ _ _ _
      | exact LeO.none _
      | refine LeO.ite ?_ ?_
      | refine LeO.bind ?_ (fun _ => ?_)
theorem meter_Errors.mono : ∀ a0 a1 k, LeO (meter_Errors.f k a0 a1) (meter_Errors.f (k + 1) a0 a1) := by
  intro a0 a1 k
  have ih0 := meter_Errors.mono_l k
  unfold meter_Errors.f
  repeat' first
      | (with_reducible exact ih0 _ _ _ _ _ _)
      | (with_reducible exact LeO.refl _)
      | (with_reducible exact LeO.none _)
      | (with_reducible refine LeO.ite ?_ ?_)
      | (with_reducible refine LeO.bind ?_ (fun _ => ?_))
      | exact ih0 _ _ _ _ _ _
      | exact LeO.none _
      | refine LeO.ite ?_ ?_
      | refine LeO.bind ?_ (fun _ => ?_)

/-! ### foghornref30_Errors: function 33 -/
mutual
def foghornref30_Errors.j0 : Nat → List Bool → List Bool → Bool → Option (Int × Int × Int)
  | 0, _, _, _ => none
  | k + 1, x0, x1, x19 => if x19 = true then (some (0, 0, 1)) else (foghornref30_Errors.l0 k x0 x1 0 0 (wrap64 ((x0.length : Int) - 1)))
def foghornref30_Errors.l0 : Nat → List Bool → List Bool → Int → Int → Int → Option (Int × Int × Int)
  | 0, _, _, _, _, _ => none
  | k + 1, x0, x1, x7, x8, x9 => if x9 ≥ 0 then (if 0 ≤ x9 then (if x9 < (x0.length : Int) then (if x9 < (x1.length : Int) then (if ((rdOf false x0 x9) != (rdOf false x1 x9)) = true then (foghornref30_Errors.l0 k x0 x1 (wrap64 (x7 + 1)) x9 (wrap64 (x9 - 1))) else (foghornref30_Errors.l0 k x0 x1 x7 x8 (wrap64 (x9 - 1)))) else (none)) else (none)) else (none)) else (some (x7, x8, 0))
end
def foghornref30_Errors.f (k : Nat) (l0 : List Bool) (l1 : List Bool) : Option (Int × Int × Int) := if (l0.length : Int) > 32768 then (foghornref30_Errors.j0 k l0 l1 true) else (foghornref30_Errors.j0 k l0 l1 ((l1.length : Int) != (l0.length : Int)))
theorem foghornref30_Errors.mono_l : ∀ k, (∀ y0 y1 y2, LeO (foghornref30_Errors.j0 k y0 y1 y2) (foghornref30_Errors.j0 (k + 1) y0 y1 y2)) ∧ (∀ y0 y1 y2 y3 y4, LeO (foghornref30_Errors.l0 k y0 y1 y2 y3 y4) (foghornref30_Errors.l0 (k + 1) y0 y1 y2 y3 y4))
  | 0 => ⟨fun _ _ _ r h => by simp [foghornref30_Errors.j0] at h, fun _ _ _ _ _ r h => by simp [foghornref30_Errors.l0] at h⟩
  | k + 1 => by
    obtain ⟨ih0, ih1⟩ := foghornref30_Errors.mono_l k
    refine ⟨?_, ?_⟩
    · intro y0 y1 y2
      unfold foghornref30_Errors.j0
      repeat' first
      | (with_reducible exact ih0 _ _ _)
      | (with_reducible exact ih1 _ _ _ _ _)
      | (with_reducible exact LeO.refl _)
      | (with_reducible exact LeO.none _)
      | (with_reducible refine LeO.ite ?_ ?_)
      | (with_reducible refine LeO.bind ?_ (fun _ => ?_))
      | exact ih0 _ _ _
      | exact ih1 _ _ _ _ _
      | exact LeO.none _
      | refine LeO.ite ?_ ?_
      | refine LeO.bind ?_ (fun _ => ?_)
    · intro y0 y1 y2 y3 y4
      unfold foghornref30_Errors.l0
      repeat' first
      | (with_reducible exact ih0 _ _ _)
      | (with_reducible exact ih1 _ _ _ _ _)
      | (with_reducible exact LeO.refl _)
      | (with_reducible exact LeO.none _)
      | (with_reducible refine LeO.ite ?_ ?_)
      | (with_reducible refine LeO.bind ?_ (fun _ => ?_))
      | exact ih0 _ _ _
      | exact ih1 _ _ _ _ _
      | exact LeO.none _
      | refine LeO.ite ?_ ?_
      | refine LeO.bind ?_ (fun _ => ?_)
theorem foghornref30_Errors.mono : ∀ a0 a1 k, LeO (foghornref30_Errors.f k a0 a1) (foghornref30_Errors.f (k + 1) a0 a1) := by
  intro a0 a1 k
  obtain ⟨ih0, ih1⟩ := foghornref30_Errors.mono_l k
  unfold foghornref30_Errors.f
  repeat' first
      | (with_reducible exact ih0 _ _ _)
      | (with_reducible exact ih1 _ _ _ _ _)
      | (with_reducible exact LeO.refl _)
      | (with_reducible exact LeO.none _)
      | (with_reducible refine LeO.ite ?_ ?_)
      | (with_reducible refine LeO.bind ?_ (fun _ => ?_))
      | exact ih0 _ _ _
      | exact ih1 _ _ _ _ _
      | exact LeO.none _
      | refine LeO.ite ?_ ?_
      | refine LeO.bind ?_ (fun _ => ?_)

/-! ### meter_Runs: function 34 -/
mutual
def meter_Runs.j0 : Nat → List Bool → List Bool → Int → Bool → Option ((List (S49)) × Int)
  | 0, _, _, _, _ => none
  | k + 1, x0, x1, x2, x18 => if x18 = true then (some (([] : List (S49)), 1)) else (meter_Runs.l0 k x0 x1 x2 ([] : List (S49)) (x0.length : Int) 0)
def meter_Runs.l0 : Nat → List Bool → List Bool → Int → List (S49) → Int → Int → Option ((List (S49)) × Int)
  | 0, _, _, _, _, _, _ => none
  | k + 1, x0, x1, x2, x8, x20, x21 => if x21 < x20 then (if 0 ≤ x21 then (if x21 < (x0.length : Int) then (if x21 < (x1.length : Int) then (if ((rdOf false x0 x21) == (rdOf false x1 x21)) = true then (meter_Runs.l0 k x0 x1 x2 x8 x20 (wrap64 (x21 + 1))) else (if (wrap64 ((x8.length : Int) - 1)) ≥ 0 then (if 0 ≤ (wrap64 ((x8.length : Int) - 1)) then (if (wrap64 ((x8.length : Int) - 1)) < (x8.length : Int) then (if (wrap64 ((wrap64 (x21 - ((rd_T49 x8 (wrap64 ((x8.length : Int) - 1))).f0))) - ((rd_T49 x8 (wrap64 ((x8.length : Int) - 1))).f1))) ≤ x2 then ((some (x8.set ((wrap64 ((x8.length : Int) - 1)) : Int).toNat (⟨(rd_T49 x8 (wrap64 ((x8.length : Int) - 1))).f0, wrap64 ((wrap64 (x21 - ((rd_T49 x8 (wrap64 ((x8.length : Int) - 1))).f0))) + 1), (rd_T49 x8 (wrap64 ((x8.length : Int) - 1))).f2⟩ : S49) : List (S49))).bind fun y314 => (meter_Runs.l0 k x0 x1 x2 (y314.set ((wrap64 ((x8.length : Int) - 1)) : Int).toNat (⟨(rd_T49 y314 (wrap64 ((x8.length : Int) - 1))).f0, (rd_T49 y314 (wrap64 ((x8.length : Int) - 1))).f1, wrap64 (((rd_T49 y314 (wrap64 ((x8.length : Int) - 1))).f2) + 1)⟩ : S49)) x20 (wrap64 (x21 + 1)))) else (if x8.length < 5864062014805 then (meter_Runs.l0 k x0 x1 x2 (x8 ++ [(⟨x21, 1, 1⟩ : S49)]) x20 (wrap64 (x21 + 1))) else (none))) else (none)) else (none)) else (if x8.length < 5864062014805 then (meter_Runs.l0 k x0 x1 x2 (x8 ++ [(⟨x21, 1, 1⟩ : S49)]) x20 (wrap64 (x21 + 1))) else (none)))) else (none)) else (none)) else (none)) else (some (x8, 0))
end
def meter_Runs.f (k : Nat) (l0 : List Bool) (l1 : List Bool) (a2 : Int) : Option ((List (S49)) × Int) := (meter_rows.f l0 l1).bind fun t308 => (if t308 = true then (meter_Runs.j0 k l0 l1 a2 (decide (a2 < 0))) else (meter_Runs.j0 k l0 l1 a2 true))
theorem meter_Runs.mono_l : ∀ k, (∀ y0 y1 y2 y3, LeO (meter_Runs.j0 k y0 y1 y2 y3) (meter_Runs.j0 (k + 1) y0 y1 y2 y3)) ∧ (∀ y0 y1 y2 y3 y4 y5, LeO (meter_Runs.l0 k y0 y1 y2 y3 y4 y5) (meter_Runs.l0 (k + 1) y0 y1 y2 y3 y4 y5))
  | 0 => ⟨fun _ _ _ _ r h => by simp [meter_Runs.j0] at h, fun _ _ _ _ _ _ r h => by simp [meter_Runs.l0] at h⟩
  | k + 1 => by
    obtain ⟨ih0, ih1⟩ := meter_Runs.mono_l k
    refine ⟨?_, ?_⟩
    · intro y0 y1 y2 y3
      unfold meter_Runs.j0
      repeat' first
      | (with_reducible exact ih0 _ _ _ _)
      | (with_reducible exact ih1 _ _ _ _ _ _)
      | (with_reducible exact LeO.refl _)
      | (with_reducible exact LeO.none _)
      | (with_reducible refine LeO.ite ?_ ?_)
      | (with_reducible refine LeO.bind ?_ (fun _ => ?_))
      | exact ih0 _ _ _ _
      | exact ih1 _ _ _ _ _ _
      | exact LeO.none _
      | refine LeO.ite ?_ ?_
      | refine LeO.bind ?_ (fun _ => ?_)
    · intro y0 y1 y2 y3 y4 y5
      unfold meter_Runs.l0
      repeat' first
      | (with_reducible exact ih0 _ _ _ _)
      | (with_reducible exact ih1 _ _ _ _ _ _)
      | (with_reducible exact LeO.refl _)
      | (with_reducible exact LeO.none _)
      | (with_reducible refine LeO.ite ?_ ?_)
      | (with_reducible refine LeO.bind ?_ (fun _ => ?_))
      | exact ih0 _ _ _ _
      | exact ih1 _ _ _ _ _ _
      | exact LeO.none _
      | refine LeO.ite ?_ ?_
      | refine LeO.bind ?_ (fun _ => ?_)
theorem meter_Runs.mono : ∀ a0 a1 a2 k, LeO (meter_Runs.f k a0 a1 a2) (meter_Runs.f (k + 1) a0 a1 a2) := by
  intro a0 a1 a2 k
  obtain ⟨ih0, ih1⟩ := meter_Runs.mono_l k
  unfold meter_Runs.f
  repeat' first
      | (with_reducible exact ih0 _ _ _ _)
      | (with_reducible exact ih1 _ _ _ _ _ _)
      | (with_reducible exact LeO.refl _)
      | (with_reducible exact LeO.none _)
      | (with_reducible refine LeO.ite ?_ ?_)
      | (with_reducible refine LeO.bind ?_ (fun _ => ?_))
      | exact ih0 _ _ _ _
      | exact ih1 _ _ _ _ _ _
      | exact LeO.none _
      | refine LeO.ite ?_ ?_
      | refine LeO.bind ?_ (fun _ => ?_)

/-! ### foghornref30_Runs: function 35 -/
mutual
def foghornref30_Runs.j0 : Nat → List Bool → List Bool → Int → Bool → Option ((List (S183)) × Int)
  | 0, _, _, _, _ => none
  | k + 1, x0, x1, x2, x25 => if x25 = true then (some (([] : List (S183)), 1)) else (foghornref30_Runs.l0 k x0 x1 x2 ([] : List (S183)) (-1) 0)
def foghornref30_Runs.l0 : Nat → List Bool → List Bool → Int → List (S183) → Int → Int → Option ((List (S183)) × Int)
  | 0, _, _, _, _, _, _ => none
  | k + 1, x0, x1, x2, x8, x9, x10 => if x10 < (x0.length : Int) then (if 0 ≤ x10 then (if x10 < (x1.length : Int) then (if ((rdOf false x0 x10) == (rdOf false x1 x10)) = true then (foghornref30_Runs.l0 k x0 x1 x2 x8 x9 (wrap64 (x10 + 1))) else (if x9 ≥ 0 then (if (wrap64 ((wrap64 (x10 - x9)) - 1)) ≤ x2 then (if 0 ≤ (wrap64 ((x8.length : Int) - 1)) then (if (wrap64 ((x8.length : Int) - 1)) < (x8.length : Int) then (foghornref30_Runs.l0 k x0 x1 x2 (x8.set ((wrap64 ((x8.length : Int) - 1)) : Int).toNat (⟨(rd_T183 x8 (wrap64 ((x8.length : Int) - 1))).f0, wrap64 ((wrap64 (x10 - ((rd_T183 x8 (wrap64 ((x8.length : Int) - 1))).f0))) + 1), wrap64 (((rd_T183 x8 (wrap64 ((x8.length : Int) - 1))).f2) + 1)⟩ : S183)) x10 (wrap64 (x10 + 1))) else (none)) else (none)) else (if x8.length < 5864062014805 then (foghornref30_Runs.l0 k x0 x1 x2 (x8 ++ [(⟨x10, 1, 1⟩ : S183)]) x10 (wrap64 (x10 + 1))) else (none))) else (if x8.length < 5864062014805 then (foghornref30_Runs.l0 k x0 x1 x2 (x8 ++ [(⟨x10, 1, 1⟩ : S183)]) x10 (wrap64 (x10 + 1))) else (none)))) else (none)) else (none)) else (some (x8, 0))
end
def foghornref30_Runs.f (k : Nat) (l0 : List Bool) (l1 : List Bool) (a2 : Int) : Option ((List (S183)) × Int) := if (l0.length : Int) > 32768 then (foghornref30_Runs.j0 k l0 l1 a2 true) else (if (l1.length : Int) = (l0.length : Int) then (foghornref30_Runs.j0 k l0 l1 a2 (decide (a2 < 0))) else (foghornref30_Runs.j0 k l0 l1 a2 true))
theorem foghornref30_Runs.mono_l : ∀ k, (∀ y0 y1 y2 y3, LeO (foghornref30_Runs.j0 k y0 y1 y2 y3) (foghornref30_Runs.j0 (k + 1) y0 y1 y2 y3)) ∧ (∀ y0 y1 y2 y3 y4 y5, LeO (foghornref30_Runs.l0 k y0 y1 y2 y3 y4 y5) (foghornref30_Runs.l0 (k + 1) y0 y1 y2 y3 y4 y5))
  | 0 => ⟨fun _ _ _ _ r h => by simp [foghornref30_Runs.j0] at h, fun _ _ _ _ _ _ r h => by simp [foghornref30_Runs.l0] at h⟩
  | k + 1 => by
    obtain ⟨ih0, ih1⟩ := foghornref30_Runs.mono_l k
    refine ⟨?_, ?_⟩
    · intro y0 y1 y2 y3
      unfold foghornref30_Runs.j0
      repeat' first
      | (with_reducible exact ih0 _ _ _ _)
      | (with_reducible exact ih1 _ _ _ _ _ _)
      | (with_reducible exact LeO.refl _)
      | (with_reducible exact LeO.none _)
      | (with_reducible refine LeO.ite ?_ ?_)
      | (with_reducible refine LeO.bind ?_ (fun _ => ?_))
      | exact ih0 _ _ _ _
      | exact ih1 _ _ _ _ _ _
      | exact LeO.none _
      | refine LeO.ite ?_ ?_
      | refine LeO.bind ?_ (fun _ => ?_)
    · intro y0 y1 y2 y3 y4 y5
      unfold foghornref30_Runs.l0
      repeat' first
      | (with_reducible exact ih0 _ _ _ _)
      | (with_reducible exact ih1 _ _ _ _ _ _)
      | (with_reducible exact LeO.refl _)
      | (with_reducible exact LeO.none _)
      | (with_reducible refine LeO.ite ?_ ?_)
      | (with_reducible refine LeO.bind ?_ (fun _ => ?_))
      | exact ih0 _ _ _ _
      | exact ih1 _ _ _ _ _ _
      | exact LeO.none _
      | refine LeO.ite ?_ ?_
      | refine LeO.bind ?_ (fun _ => ?_)
theorem foghornref30_Runs.mono : ∀ a0 a1 a2 k, LeO (foghornref30_Runs.f k a0 a1 a2) (foghornref30_Runs.f (k + 1) a0 a1 a2) := by
  intro a0 a1 a2 k
  obtain ⟨ih0, ih1⟩ := foghornref30_Runs.mono_l k
  unfold foghornref30_Runs.f
  repeat' first
      | (with_reducible exact ih0 _ _ _ _)
      | (with_reducible exact ih1 _ _ _ _ _ _)
      | (with_reducible exact LeO.refl _)
      | (with_reducible exact LeO.none _)
      | (with_reducible refine LeO.ite ?_ ?_)
      | (with_reducible refine LeO.bind ?_ (fun _ => ?_))
      | exact ih0 _ _ _ _
      | exact ih1 _ _ _ _ _ _
      | exact LeO.none _
      | refine LeO.ite ?_ ?_
      | refine LeO.bind ?_ (fun _ => ?_)

/-! ### foghornlaw30_runs: function 36 -/
def foghornlaw30_runs.l0 : Nat → List (S49) → List (S183) → Int → Option (Bool)
  | 0, _, _, _ => none
  | k + 1, x0, x1, x5 => if x5 < (x0.length : Int) then (if 0 ≤ x5 then (if x5 < (x1.length : Int) then (if ((rd_T49 x0 x5).f0) = ((rd_T183 x1 x5).f0) then (if ((rd_T49 x0 x5).f1) = ((rd_T183 x1 x5).f1) then (if ((rd_T49 x0 x5).f2) = ((rd_T183 x1 x5).f2) then (foghornlaw30_runs.l0 k x0 x1 (wrap64 (x5 + 1))) else (some false)) else (some false)) else (some false)) else (none)) else (none)) else (some true)
def foghornlaw30_runs.f (k : Nat) (l0 : List (S49)) (l1 : List (S183)) : Option (Bool) := if (l0.length : Int) = (l1.length : Int) then (foghornlaw30_runs.l0 k l0 l1 0) else (some false)
theorem foghornlaw30_runs.mono_l : ∀ k, (∀ y0 y1 y2, LeO (foghornlaw30_runs.l0 k y0 y1 y2) (foghornlaw30_runs.l0 (k + 1) y0 y1 y2))
  | 0 => fun _ _ _ r h => by simp [foghornlaw30_runs.l0] at h
  | k + 1 => by
    have ih0 := foghornlaw30_runs.mono_l k
    · intro y0 y1 y2
      unfold foghornlaw30_runs.l0
      repeat' first
      | (with_reducible exact ih0 _ _ _)
      | (with_reducible exact LeO.refl _)
      | (with_reducible exact LeO.none _)
      | (with_reducible refine LeO.ite ?_ ?_)
      | (with_reducible refine LeO.bind ?_ (fun _ => ?_))
      | exact ih0 _ _ _
      | exact LeO.none _
      | refine LeO.ite ?_ ?_
      | refine LeO.bind ?_ (fun _ => ?_)
theorem foghornlaw30_runs.mono : ∀ a0 a1 k, LeO (foghornlaw30_runs.f k a0 a1) (foghornlaw30_runs.f (k + 1) a0 a1) := by
  intro a0 a1 k
  have ih0 := foghornlaw30_runs.mono_l k
  unfold foghornlaw30_runs.f
  repeat' first
      | (with_reducible exact ih0 _ _ _)
      | (with_reducible exact LeO.refl _)
      | (with_reducible exact LeO.none _)
      | (with_reducible refine LeO.ite ?_ ?_)
      | (with_reducible refine LeO.bind ?_ (fun _ => ?_))
      | exact ih0 _ _ _
      | exact LeO.none _
      | refine LeO.ite ?_ ?_
      | refine LeO.bind ?_ (fun _ => ?_)

/-! ### foghornref24_Same: function 110 -/
def foghornref24_Same.l0 : Nat → List Bool → List Bool → Int → Option (Bool)
  | 0, _, _, _ => none
  | k + 1, x0, x1, x5 => if x5 < (x0.length : Int) then (if 0 ≤ x5 then (if x5 < (x1.length : Int) then (if ((rdOf false x0 x5) != (rdOf false x1 x5)) = true then (some false) else (foghornref24_Same.l0 k x0 x1 (wrap64 (x5 + 1)))) else (none)) else (none)) else (some true)
def foghornref24_Same.f (k : Nat) (l0 : List Bool) (l1 : List Bool) : Option (Bool) := if (l0.length : Int) = (l1.length : Int) then (foghornref24_Same.l0 k l0 l1 0) else (some false)
theorem foghornref24_Same.mono_l : ∀ k, (∀ y0 y1 y2, LeO (foghornref24_Same.l0 k y0 y1 y2) (foghornref24_Same.l0 (k + 1) y0 y1 y2))
  | 0 => fun _ _ _ r h => by simp [foghornref24_Same.l0] at h
  | k + 1 => by
    have ih0 := foghornref24_Same.mono_l k
    · intro y0 y1 y2
      unfold foghornref24_Same.l0
      repeat' first
      | (with_reducible exact ih0 _ _ _)
      | (with_reducible exact LeO.refl _)
      | (with_reducible exact LeO.none _)
      | (with_reducible refine LeO.ite ?_ ?_)
      | (with_reducible refine LeO.bind ?_ (fun _ => ?_))
      | exact ih0 _ _ _
      | exact LeO.none _
      | refine LeO.ite ?_ ?_
      | refine LeO.bind ?_ (fun _ => ?_)
theorem foghornref24_Same.mono : ∀ a0 a1 k, LeO (foghornref24_Same.f k a0 a1) (foghornref24_Same.f (k + 1) a0 a1) := by
  intro a0 a1 k
  have ih0 := foghornref24_Same.mono_l k
  unfold foghornref24_Same.f
  repeat' first
      | (with_reducible exact ih0 _ _ _)
      | (with_reducible exact LeO.refl _)
      | (with_reducible exact LeO.none _)
      | (with_reducible refine LeO.ite ?_ ?_)
      | (with_reducible refine LeO.bind ?_ (fun _ => ?_))
      | exact ih0 _ _ _
      | exact LeO.none _
      | refine LeO.ite ?_ ?_
      | refine LeO.bind ?_ (fun _ => ?_)

/-! ### foghornlaw30_kept: function 37 -/
def foghornlaw30_kept.f (k : Nat) (l0 : List Bool) (l1 : List Bool) : Option (Bool) := if l0.length < 140737488355328 then foghornref24_Same.f k l0 l1 else none
theorem foghornlaw30_kept.mono : ∀ a0 a1 k, LeO (foghornlaw30_kept.f k a0 a1) (foghornlaw30_kept.f (k + 1) a0 a1) := fun a0 a1 k => LeO.ite (foghornref24_Same.mono a0 a1 k) (LeO.refl _)

/-! ### points_of: function 127 -/
def pts_axis (edge word : Int) : Option Nat := (bits_Ungray.f 9 word).bind fun p => some (floatOfInt .f64 (wrap64 (wrap64 (2 * p.1) - edge)))
def pts_high (edge most a : Int) : Int := if most < (if a < wrap64 (-a) then wrap64 (-a) else a) then most else edge
def pts_crf (edge most : Int) : Nat → Int → Int → Option (Nat × Nat)
  | 0, _, _ => none
  | k + 1, a, l => if l ≤ pts_high edge most a then some (floatOfInt .f64 a, floatOfInt .f64 (wrap64 (wrap64 (2 * l) - pts_high edge most a))) else pts_crf edge most k (wrap64 (a + 2)) (wrap64 (l - wrap64 (pts_high edge most a + 1)))
def pts_sqf (d m edge label : Int) : Option (Nat × Nat) := (pts_axis edge (label / d)).bind fun p => (pts_axis edge (Go.bits .and .i64 label m)).bind fun q => some (p, q)
def pts_crF (edge most label : Int) : Option (Nat × Nat) := pts_crf edge most 40 (wrap64 (-edge)) label
def pts_spec (size : Int) : Option (Int × Int × (Int → Option (Nat × Nat))) :=
  if size = 4 then some (2, 1, pts_sqf 2 1 1) else if size = 16 then some (4, 3, pts_sqf 4 3 3) else if size = 32 then some (5, 5, pts_crF 5 3) else if size = 64 then some (6, 7, pts_sqf 8 7 7) else if size = 128 then some (7, 11, pts_crF 11 7) else if size = 256 then some (8, 15, pts_sqf 16 15 15) else none
def points_of.f (a0 : Int) : Option (Int) := none

/-! ### points_All: function 56 -/
def pts_all (F : Int → Option (Nat × Nat)) : Nat → Option (List (Nat × Nat))
  | 0 => some []
  | n + 1 => (pts_all F n).bind fun l => (F (n : Int)).bind fun r => some (l ++ [r])
def points_All.f (a0 : Int) : Option (List (Nat × Nat) × Int) := match pts_spec a0 with
  | none => some ([], 1)
  | some x => (pts_all x.2.2 a0.toNat).bind fun l => some (l, 0)

/-! ### math_Inf: function 76 -/
def math_Inf.f (a0 : Int) : Option (Nat) := if a0 ≥ 0 then (some 9218868437227405312) else (some 18442240474082181120)

/-! ### plane_Norm: function 130 -/
def plane_Norm.f (a0 : (Nat × Nat)) : Option (Nat) := (floatBits .mul .f64 a0.1 a0.1).bind fun t342 => ((floatBits .mul .f64 a0.2 a0.2).bind fun t343 => ((floatBits .add .f64 t342 t343).bind fun t344 => (some t344)))

/-! ### plane_Apart: function 157 -/
def plane_Apart.f (a0 : (Nat × Nat)) (a1 : (Nat × Nat)) : Option (Nat) := (cSumBits .sub .f64 a0.1 a0.2 a1.1 a1.2).bind fun t345 => ((plane_Norm.f t345).bind fun t346 => (some t346))

/-! ### meter_nearest: function 128 -/
def meter_nearest.l0 : Nat → (Nat × Nat) → Int → Nat → Nat → List (Nat × Nat) → Int → Int → Option (Int × Nat × Nat)
  | 0, _, _, _, _, _, _, _ => none
  | k + 1, x1, x4, x5, x6, x12, x13, x14 => if x14 < x13 then (if 0 ≤ x14 then (if x14 < (x12.length : Int) then ((plane_Apart.f (rdOf (0, 0) x12 x14) x1).bind fun t350 => (if (FloatKind.f64.format.order t350 x5 == some .lt) = true then (meter_nearest.l0 k x1 x14 t350 x5 x12 x13 (wrap64 (x14 + 1))) else (if (FloatKind.f64.format.order t350 x6 == some .lt) = true then (meter_nearest.l0 k x1 x4 x5 t350 x12 x13 (wrap64 (x14 + 1))) else (meter_nearest.l0 k x1 x4 x5 x6 x12 x13 (wrap64 (x14 + 1)))))) else (none)) else (none)) else (some (x4, x5, x6))
def meter_nearest.f (k : Nat) (l0 : List (Nat × Nat)) (a1 : (Nat × Nat)) : Option (Int × Nat × Nat) := (math_Inf.f 1).bind fun t347 => ((math_Inf.f 1).bind fun t348 => (meter_nearest.l0 k a1 0 t347 t348 l0 (l0.length : Int) 0))
theorem meter_nearest.mono_l : ∀ k, (∀ y0 y1 y2 y3 y4 y5 y6, LeO (meter_nearest.l0 k y0 y1 y2 y3 y4 y5 y6) (meter_nearest.l0 (k + 1) y0 y1 y2 y3 y4 y5 y6))
  | 0 => fun _ _ _ _ _ _ _ r h => by simp [meter_nearest.l0] at h
  | k + 1 => by
    have ih0 := meter_nearest.mono_l k
    · intro y0 y1 y2 y3 y4 y5 y6
      unfold meter_nearest.l0
      repeat' first
      | (with_reducible exact ih0 _ _ _ _ _ _ _)
      | (with_reducible exact LeO.refl _)
      | (with_reducible exact LeO.none _)
      | (with_reducible refine LeO.ite ?_ ?_)
      | (with_reducible refine LeO.bind ?_ (fun _ => ?_))
      | exact ih0 _ _ _ _ _ _ _
      | exact LeO.none _
      | refine LeO.ite ?_ ?_
      | refine LeO.bind ?_ (fun _ => ?_)
theorem meter_nearest.mono : ∀ a0 a1 k, LeO (meter_nearest.f k a0 a1) (meter_nearest.f (k + 1) a0 a1) := by
  intro a0 a1 k
  have ih0 := meter_nearest.mono_l k
  unfold meter_nearest.f
  repeat' first
      | (with_reducible exact ih0 _ _ _ _ _ _ _)
      | (with_reducible exact LeO.refl _)
      | (with_reducible exact LeO.none _)
      | (with_reducible refine LeO.ite ?_ ?_)
      | (with_reducible refine LeO.bind ?_ (fun _ => ?_))
      | exact ih0 _ _ _ _ _ _ _
      | exact LeO.none _
      | refine LeO.ite ?_ ?_
      | refine LeO.bind ?_ (fun _ => ?_)

/-! ### meter_Nearest: function 57 -/
def meter_Nearest.f (k : Nat) (a0 : Int) (a1 : (Nat × Nat)) : Option (Int × Nat × Nat × Int) := (points_All.f a0).bind fun bt351 => (if bt351.2 = 0 then ((grid_On.f a1.1).bind fun t355 => (if t355 = true then ((grid_On.f a1.2).bind fun t356 => (if t356 = true then ((meter_nearest.f k bt351.1 a1).bind fun bt357 => (some (bt357.1, bt357.2.1, bt357.2.2, 0))) else (some (0, 0, 0, 7)))) else (some (0, 0, 0, 7)))) else (some (0, 0, 0, 1)))
theorem meter_Nearest.mono : ∀ a0 a1 k, LeO (meter_Nearest.f k a0 a1) (meter_Nearest.f (k + 1) a0 a1) := by
  intro a0 a1 k
  unfold meter_Nearest.f
  repeat' first
      | (with_reducible exact meter_nearest.mono _ _ _)
      | (with_reducible exact LeO.refl _)
      | (with_reducible exact LeO.none _)
      | (with_reducible refine LeO.ite ?_ ?_)
      | (with_reducible refine LeO.bind ?_ (fun _ => ?_))
      | exact meter_nearest.mono _ _ _
      | exact LeO.none _
      | refine LeO.ite ?_ ?_
      | refine LeO.bind ?_ (fun _ => ?_)

/-! ### foghornlaw30_awake: function 38 -/
def foghornlaw30_awake.f (k : Nat)  : Option (Bool) := (meter_Errors.f k (([false, true, true, false] : List Bool)) (([false, false, true, true] : List Bool))).bind fun bt366 => ((meter_Nearest.f k 4 (4607182418800017408, 4607182418800017408)).bind fun bt369 => (if bt366.1 = 2 then (if bt366.2.1 = 1 then (if bt366.2.2 = 0 then (if bt369.1 = 3 then (if (FloatKind.f64.format.order bt369.2.1 0 == some .eq) = true then (if (FloatKind.f64.format.order bt369.2.2.1 4616189618054758400 == some .eq) = true then (some (bt369.2.2.2 == 0)) else (some false)) else (some false)) else (some false)) else (some false)) else (some false)) else (some false)))
theorem foghornlaw30_awake.mono : ∀ k, LeO (foghornlaw30_awake.f k ) (foghornlaw30_awake.f (k + 1) ) := by
  intro  k
  unfold foghornlaw30_awake.f
  repeat' first
      | (with_reducible exact meter_Errors.mono _ _ _)
      | (with_reducible exact meter_Nearest.mono _ _ _)
      | (with_reducible exact LeO.refl _)
      | (with_reducible exact LeO.none _)
      | (with_reducible refine LeO.ite ?_ ?_)
      | (with_reducible refine LeO.bind ?_ (fun _ => ?_))
      | exact meter_Errors.mono _ _ _
      | exact meter_Nearest.mono _ _ _
      | exact LeO.none _
      | refine LeO.ite ?_ ?_
      | refine LeO.bind ?_ (fun _ => ?_)

/-! ### meter_New: function 39 -/
def meter_New.f  : Option (Int × Int × Int × Int) := some (0, 0, 0, 0)

/-! ### foghornref30_Count: function 40 -/
def foghornref30_Count.f (k : Nat) (a0_0 : Int) (a0_1 : Int) (a0_2 : Int) (a0_3 : Int) (l1 : List Bool) (l2 : List Bool) : Option (Int × Int × Int × Int × Int) := (foghornref30_Errors.f k l1 l2).bind fun bt435 => (if bt435.2.2 = 0 then (if bt435.1 > 0 then (some (wrap64 (a0_0 + 1), wrap64 (a0_1 + 1), wrap64 (a0_2 + (l1.length : Int)), wrap64 (a0_3 + bt435.1), 0)) else (some (wrap64 (a0_0 + 1), a0_1, wrap64 (a0_2 + (l1.length : Int)), wrap64 (a0_3 + bt435.1), 0))) else (some (a0_0, a0_1, a0_2, a0_3, bt435.2.2)))
theorem foghornref30_Count.mono : ∀ a0 a1 a2 a3 a4 a5 k, LeO (foghornref30_Count.f k a0 a1 a2 a3 a4 a5) (foghornref30_Count.f (k + 1) a0 a1 a2 a3 a4 a5) := by
  intro a0 a1 a2 a3 a4 a5 k
  unfold foghornref30_Count.f
  repeat' first
      | (with_reducible exact foghornref30_Errors.mono _ _ _)
      | (with_reducible exact LeO.refl _)
      | (with_reducible exact LeO.none _)
      | (with_reducible refine LeO.ite ?_ ?_)
      | (with_reducible refine LeO.bind ?_ (fun _ => ?_))
      | exact foghornref30_Errors.mono _ _ _
      | exact LeO.none _
      | refine LeO.ite ?_ ?_
      | refine LeO.bind ?_ (fun _ => ?_)

/-! ### meter_Meter_Told: function 42 -/
def meter_Meter_Told.f (s0_0 : Int) (s0_1 : Int) (s0_2 : Int) (s0_3 : Int) : Option (Int × Int × Int × Int × Int × Int × Int × Int × Int) := some (s0_0, s0_1, s0_2, s0_3, 0, s0_0, s0_1, s0_2, s0_3)

/-! ### bits_Mul64: function 112 -/
def bits_Mul64.f (a0 : Int) (a1 : Int) : Option (Int × Int) := some (IntKind.u64.wrap ((IntKind.u64.wrap ((IntKind.u64.wrap ((a0 / 4294967296) * (a1 / 4294967296))) + ((IntKind.u64.wrap ((IntKind.u64.wrap ((a0 / 4294967296) * (Go.bits .and .u64 a1 4294967295))) + ((IntKind.u64.wrap ((Go.bits .and .u64 a0 4294967295) * (Go.bits .and .u64 a1 4294967295))) / 4294967296))) / 4294967296))) + ((IntKind.u64.wrap ((Go.bits .and .u64 (IntKind.u64.wrap ((IntKind.u64.wrap ((a0 / 4294967296) * (Go.bits .and .u64 a1 4294967295))) + ((IntKind.u64.wrap ((Go.bits .and .u64 a0 4294967295) * (Go.bits .and .u64 a1 4294967295))) / 4294967296))) 4294967295) + (IntKind.u64.wrap ((Go.bits .and .u64 a0 4294967295) * (a1 / 4294967296))))) / 4294967296)), IntKind.u64.wrap (a0 * a1))

/-! ### meter_Meter_Within: function 43 -/
def meter_Meter_Within.f (s0_0 : Int) (s0_1 : Int) (s0_2 : Int) (s0_3 : Int) (a1 : Int) : Option (Bool × Int × Int × Int × Int × Int) := if a1 < 1 then (some (false, 1, s0_0, s0_1, s0_2, s0_3)) else ((bits_Mul64.f (IntKind.u64.wrap (s0_3)) (IntKind.u64.wrap (a1))).bind fun bt442 => (if bt442.1 = 0 then (some (decide (bt442.2 ≤ (IntKind.u64.wrap (s0_2))), 0, s0_0, s0_1, s0_2, s0_3)) else (some (false, 0, s0_0, s0_1, s0_2, s0_3))))

/-! ### foghornref30_Within: function 44 -/
def foghornref30_Within.f (a0_0 : Int) (a0_1 : Int) (a0_2 : Int) (a0_3 : Int) (a1 : Int) : Option (Bool × Int) := if a1 < 1 then (some (false, 1)) else (if a0_3 = 0 then (some (true, 0)) else (some (decide (a1 ≤ (wrap64 (Int.tdiv a0_2 a0_3))), 0)))

/-! ### foghornlaw30_MeterCounts: function 6 -/
def mtr_more (x d : Int) : Int := wrap64 (x + (if wrap64 (9223372036854775807 - x) < d then wrap64 (9223372036854775807 - x) else d))
/-- What a meter counts of a row of n bits, t told of it. -/
def mtr_next (s : Int × Int × Int × Int) (n : Int) (t : Int × Int × Int) : Int × Int × Int × Int := if t.2.2 = 0 then (mtr_more s.1 1, mtr_more s.2.1 (if t.1 < 1 then t.1 else 1), mtr_more s.2.2.1 n, mtr_more s.2.2.2 t.1) else s
/-- One row counted, by both; none where they differ. -/
noncomputable def mc_step (k : Nat) (t : Int × Int × Int × Int) (x : S61) : Option (Int × Int × Int × Int) :=
  open Classical in
  (foghornref30_Count.f k t.1 t.2.1 t.2.2.1 t.2.2.2 x.f0 x.f1).bind fun c => (meter_Errors.f k x.f0 x.f1).bind fun e => (meter_Meter_Within.f c.1 c.2.1 c.2.2.1 c.2.2.2.1 x.f2).bind fun a => (foghornref30_Within.f c.1 c.2.1 c.2.2.1 c.2.2.2.1 x.f2).bind fun b =>
    if e.2.2 = c.2.2.2.2 ∧ (x.f0.length < 140737488355327 ∧ x.f1.length < 140737488355327) ∧ mtr_next t x.f0.length e = (c.1, c.2.1, c.2.2.1, c.2.2.2.1) ∧ a.1 = b.1 ∧ a.2.1 = b.2 then some (c.1, c.2.1, c.2.2.1, c.2.2.2.1) else none
noncomputable def mc_run (k : Nat) : List S61 → Nat → (Int × Int × Int × Int) → Option Bool
  | [], _, _ => foghornlaw30_awake.f k
  | _ :: _, 0, _ => foghornlaw30_awake.f k
  | x :: xs, n + 1, t => (mc_step k t x).bind fun t' => mc_run k xs n t'
noncomputable def foghornlaw30_MeterCounts.f (k : Nat) (l0 : List S61) : Option Bool := (meter_Errors.f k [true] [false]).bind fun _ => mc_run k l0 40 (0, 0, 0, 0)
theorem mc_step_mono (t : Int × Int × Int × Int) (x : S61) (k : Nat) : LeO (mc_step k t x) (mc_step (k + 1) t x) := by
  unfold mc_step
  exact LeO.bind (foghornref30_Count.mono _ _ _ _ _ _ k) (fun _ => LeO.bind (meter_Errors.mono _ _ k) (fun _ => LeO.refl _))
theorem mc_run_mono (k : Nat) : ∀ (l : List S61) (n : Nat) (t : Int × Int × Int × Int), LeO (mc_run k l n t) (mc_run (k + 1) l n t)
  | [], _, _ => foghornlaw30_awake.mono k
  | _ :: _, 0, _ => foghornlaw30_awake.mono k
  | x :: xs, n + 1, t => by
    unfold mc_run
    exact LeO.bind (mc_step_mono t x k) (fun t' => mc_run_mono k xs n t')
theorem foghornlaw30_MeterCounts.mono : ∀ a0 k, LeO (foghornlaw30_MeterCounts.f k a0) (foghornlaw30_MeterCounts.f (k + 1) a0) := fun a0 k => by
  unfold foghornlaw30_MeterCounts.f
  exact LeO.bind (meter_Errors.mono _ _ k) (fun _ => mc_run_mono k a0 40 _)
/-- THE ONE PURE STATEMENT of foghornlaw30_MeterCounts: ours. -/
def foghornlaw30_MeterCounts.Pure : Prop := ∀ (l0 : List (S61)), (l0.length * 56 ≤ 140737488351232 ∧ ∀ x ∈ l0, (fun y_ : S61 => (y_.f0.length * 1 ≤ 140737488351232 ∧ ∀ x ∈ y_.f0, (fun y_ : Bool => True) x) ∧ (y_.f1.length * 1 ≤ 140737488351232 ∧ ∀ x ∈ y_.f1, (fun y_ : Bool => True) x) ∧ ((Lit.int .i64 y_.f2).wf = true)) x) → ∃ k, foghornlaw30_MeterCounts.f k l0 = some true

/-! ### grid_may: function 158 -/
def grid_may.f (a0_0 : (Nat × Nat)) (a0_1 : Bool) : Option (Bool) := if a0_1 = true then (some ((FloatKind.f64.format.order a0_0.1 0 == some .eq) && (FloatKind.f64.format.order a0_0.2 0 == some .eq))) else ((grid_On.f a0_0.1).bind fun t633 => (if t633 = true then ((grid_On.f a0_0.2).bind fun t634 => (some t634)) else (some false)))

/-! ### grid_Check: function 129 -/
def grid_Check.l0 : Nat → List (S101) → Int → Int → Option (Int × Int)
  | 0, _, _, _ => none
  | k + 1, x9, x10, x11 => if x11 < x10 then (if 0 ≤ x11 then (if x11 < (x9.length : Int) then ((grid_may.f ((rd_T101 x9 x11).f0) ((rd_T101 x9 x11).f1)).bind fun t637 => (if t637 = true then (grid_Check.l0 k x9 x10 (wrap64 (x11 + 1))) else (some (x11, 7)))) else (none)) else (none)) else (some (0, 0))
def grid_Check.f (k : Nat) (l0 : List (S101)) : Option (Int × Int) := if (l0.length : Int) > 65536 then (some (0, 1)) else (grid_Check.l0 k l0 (l0.length : Int) 0)
theorem grid_Check.mono_l : ∀ k, (∀ y0 y1 y2, LeO (grid_Check.l0 k y0 y1 y2) (grid_Check.l0 (k + 1) y0 y1 y2))
  | 0 => fun _ _ _ r h => by simp [grid_Check.l0] at h
  | k + 1 => by
    have ih0 := grid_Check.mono_l k
    · intro y0 y1 y2
      unfold grid_Check.l0
      repeat' first
      | (with_reducible exact ih0 _ _ _)
      | (with_reducible exact LeO.refl _)
      | (with_reducible exact LeO.none _)
      | (with_reducible refine LeO.ite ?_ ?_)
      | (with_reducible refine LeO.bind ?_ (fun _ => ?_))
      | exact ih0 _ _ _
      | exact LeO.none _
      | refine LeO.ite ?_ ?_
      | refine LeO.bind ?_ (fun _ => ?_)
theorem grid_Check.mono : ∀ a0 k, LeO (grid_Check.f k a0) (grid_Check.f (k + 1) a0) := by
  intro a0 k
  have ih0 := grid_Check.mono_l k
  unfold grid_Check.f
  repeat' first
      | (with_reducible exact ih0 _ _ _)
      | (with_reducible exact LeO.refl _)
      | (with_reducible exact LeO.none _)
      | (with_reducible refine LeO.ite ?_ ?_)
      | (with_reducible refine LeO.bind ?_ (fun _ => ?_))
      | exact ih0 _ _ _
      | exact LeO.none _
      | refine LeO.ite ?_ ?_
      | refine LeO.bind ?_ (fun _ => ?_)

/-! ### meter_Open: function 59 -/
def meter_Open.l0 : Nat → Nat → Int → List (Nat × Nat) → List (S101) → Int → Int → Option (Nat × Int × Int)
  | 0, _, _, _, _, _, _ => none
  | k + 1, x4, x5, x7, x31, x32, x33 => if x33 < x32 then (if 0 ≤ x33 then (if x33 < (x31.length : Int) then (if (rd_T101 x31 x33).f1 = true then (meter_Open.l0 k x4 x5 x7 x31 x32 (wrap64 (x33 + 1))) else ((meter_nearest.f k x7 ((rd_T101 x31 x33).f0)).bind fun bt647 => ((floatBits .sub .f64 bt647.2.2 bt647.2.1).bind fun t650 => (if (FloatKind.f64.format.order t650 x4 == some .lt) = true then (meter_Open.l0 k t650 x33 x7 x31 x32 (wrap64 (x33 + 1))) else (meter_Open.l0 k x4 x5 x7 x31 x32 (wrap64 (x33 + 1))))))) else (none)) else (none)) else (if x5 < 0 then (some (0, 0, 6)) else (some (x4, x5, 0)))
def meter_Open.f (k : Nat) (a0 : Int) (l1 : List (S101)) : Option (Nat × Int × Int) := (points_All.f a0).bind fun bt638 => (if bt638.2 = 0 then ((grid_Check.f k l1).bind fun bt642 => (if bt642.2 = 0 then ((math_Inf.f 1).bind fun t644 => (meter_Open.l0 k t644 (-1) bt638.1 l1 (l1.length : Int) 0)) else (some (0, 0, bt642.2)))) else (some (0, 0, 1)))
theorem meter_Open.mono_l : ∀ k, (∀ y0 y1 y2 y3 y4 y5, LeO (meter_Open.l0 k y0 y1 y2 y3 y4 y5) (meter_Open.l0 (k + 1) y0 y1 y2 y3 y4 y5))
  | 0 => fun _ _ _ _ _ _ r h => by simp [meter_Open.l0] at h
  | k + 1 => by
    have ih0 := meter_Open.mono_l k
    · intro y0 y1 y2 y3 y4 y5
      unfold meter_Open.l0
      repeat' first
      | (with_reducible exact ih0 _ _ _ _ _ _)
      | (with_reducible exact grid_Check.mono _ _)
      | (with_reducible exact meter_nearest.mono _ _ _)
      | (with_reducible exact LeO.refl _)
      | (with_reducible exact LeO.none _)
      | (with_reducible refine LeO.ite ?_ ?_)
      | (with_reducible refine LeO.bind ?_ (fun _ => ?_))
      | exact ih0 _ _ _ _ _ _
      | exact grid_Check.mono _ _
      | exact meter_nearest.mono _ _ _
      | exact LeO.none _
      | refine LeO.ite ?_ ?_
      | refine LeO.bind ?_ (fun _ => ?_)
theorem meter_Open.mono : ∀ a0 a1 k, LeO (meter_Open.f k a0 a1) (meter_Open.f (k + 1) a0 a1) := by
  intro a0 a1 k
  have ih0 := meter_Open.mono_l k
  unfold meter_Open.f
  repeat' first
      | (with_reducible exact ih0 _ _ _ _ _ _)
      | (with_reducible exact grid_Check.mono _ _)
      | (with_reducible exact meter_nearest.mono _ _ _)
      | (with_reducible exact LeO.refl _)
      | (with_reducible exact LeO.none _)
      | (with_reducible refine LeO.ite ?_ ?_)
      | (with_reducible refine LeO.bind ?_ (fun _ => ?_))
      | exact ih0 _ _ _ _ _ _
      | exact grid_Check.mono _ _
      | exact meter_nearest.mono _ _ _
      | exact LeO.none _
      | refine LeO.ite ?_ ?_
      | refine LeO.bind ?_ (fun _ => ?_)

/-! ### meter_Power: function 61 -/
def meter_Power.l0 : Nat → Nat → Int → List (S101) → Int → Int → Option (Nat × Int × Int)
  | 0, _, _, _, _, _ => none
  | k + 1, x2, x3, x20, x21, x22 => if x22 < x21 then (if 0 ≤ x22 then (if x22 < (x20.length : Int) then (if ((rd_T101 x20 x22).f1 = true) then (meter_Power.l0 k x2 x3 x20 x21 (wrap64 (x22 + 1))) else ((plane_Norm.f ((rd_T101 x20 x22).f0)).bind fun t667 => ((floatBits .add .f64 x2 t667).bind fun t668 => (meter_Power.l0 k t668 (wrap64 (x3 + 1)) x20 x21 (wrap64 (x22 + 1)))))) else (none)) else (none)) else (some (x2, x3, 0))
def meter_Power.f (k : Nat) (l0 : List (S101)) : Option (Nat × Int × Int) := if (l0.length : Int) > 64 then (some (0, 0, 1)) else ((grid_Check.f k l0).bind fun bt663 => (if bt663.2 = 0 then (meter_Power.l0 k 0 0 l0 (l0.length : Int) 0) else (some (0, 0, bt663.2))))
theorem meter_Power.mono_l : ∀ k, (∀ y0 y1 y2 y3 y4, LeO (meter_Power.l0 k y0 y1 y2 y3 y4) (meter_Power.l0 (k + 1) y0 y1 y2 y3 y4))
  | 0 => fun _ _ _ _ _ r h => by simp [meter_Power.l0] at h
  | k + 1 => by
    have ih0 := meter_Power.mono_l k
    · intro y0 y1 y2 y3 y4
      unfold meter_Power.l0
      repeat' first
      | (with_reducible exact ih0 _ _ _ _ _)
      | (with_reducible exact grid_Check.mono _ _)
      | (with_reducible exact LeO.refl _)
      | (with_reducible exact LeO.none _)
      | (with_reducible refine LeO.ite ?_ ?_)
      | (with_reducible refine LeO.bind ?_ (fun _ => ?_))
      | exact ih0 _ _ _ _ _
      | exact grid_Check.mono _ _
      | exact LeO.none _
      | refine LeO.ite ?_ ?_
      | refine LeO.bind ?_ (fun _ => ?_)
theorem meter_Power.mono : ∀ a0 k, LeO (meter_Power.f k a0) (meter_Power.f (k + 1) a0) := by
  intro a0 k
  have ih0 := meter_Power.mono_l k
  unfold meter_Power.f
  repeat' first
      | (with_reducible exact ih0 _ _ _ _ _)
      | (with_reducible exact grid_Check.mono _ _)
      | (with_reducible exact LeO.refl _)
      | (with_reducible exact LeO.none _)
      | (with_reducible refine LeO.ite ?_ ?_)
      | (with_reducible refine LeO.bind ?_ (fun _ => ?_))
      | exact ih0 _ _ _ _ _
      | exact grid_Check.mono _ _
      | exact LeO.none _
      | refine LeO.ite ?_ ?_
      | refine LeO.bind ?_ (fun _ => ?_)

/-! ### foghornlaw30_MeterNone: function 16 -/
/-- What the closed statement's calls are told. -/
noncomputable def foghornlaw30_MeterNone.f (k : Nat) : Option Bool :=
  (meter_Errors.f k (List.replicate (32768 : Int).toNat false) (List.replicate (32768 : Int).toNat false)).bind fun a => (meter_Errors.f k (List.replicate (32769 : Int).toNat false) (List.replicate (32769 : Int).toNat false)).bind fun b => (meter_Errors.f k [] (List.replicate (1 : Int).toNat false)).bind fun c => (meter_Errors.f k [] []).bind fun d =>
  (meter_Runs.f k [] [] (-1)).bind fun e => (meter_Runs.f k [] [] 4611686018427387904).bind fun f => (meter_Nearest.f k 8 (0, 0)).bind fun g => (meter_Nearest.f k 4 (4547007122018943789, 0)).bind fun h => (meter_Power.f k (List.replicate (65 : Int).toNat z101)).bind fun i => (meter_Power.f k []).bind fun j =>
  (meter_Open.f k 4 [⟨(0, 0), true⟩]).bind fun l => (meter_Open.f k 4 [⟨(4656510908468559872, 0), false⟩]).bind fun m => (foghornlaw30_awake.f k).bind fun n =>
    open Classical in if (a.2.2 = 0 ∧ b.2.2 = 1 ∧ c.2.2 = 1 ∧ d.2.2 = 0) ∧ (e.2 = 1 ∧ f = ([], 0)) ∧ (g.2.2.2 = 1 ∧ h.2.2.2 = 7) ∧ (i.2.2 = 1 ∧ j = (0, 0, 0)) ∧ (l.2.2 = 6 ∧ m.2.2 = 7) ∧ n = true then some true else none
theorem foghornlaw30_MeterNone.mono : ∀ k, LeO (foghornlaw30_MeterNone.f k) (foghornlaw30_MeterNone.f (k + 1)) := fun k => by
  unfold foghornlaw30_MeterNone.f
  exact LeO.bind (meter_Errors.mono _ _ k) (fun _ => LeO.bind (meter_Errors.mono _ _ k) (fun _ => LeO.bind (meter_Errors.mono _ _ k) (fun _ => LeO.bind (meter_Errors.mono _ _ k) (fun _ => LeO.bind (meter_Runs.mono _ _ _ k) (fun _ => LeO.bind (meter_Runs.mono _ _ _ k) (fun _ => LeO.bind (meter_Nearest.mono _ _ k) (fun _ => LeO.bind (meter_Nearest.mono _ _ k) (fun _ => LeO.bind (meter_Power.mono _ k) (fun _ => LeO.bind (meter_Power.mono _ k) (fun _ => LeO.bind (meter_Open.mono _ _ k) (fun _ => LeO.bind (meter_Open.mono _ _ k) (fun _ => LeO.bind (foghornlaw30_awake.mono k) (fun _ => LeO.refl _)))))))))))))
/-- THE ONE PURE STATEMENT of foghornlaw30_MeterNone: ours. -/
def foghornlaw30_MeterNone.Pure : Prop := ∃ k, foghornlaw30_MeterNone.f k = some true

end Go.Proofs.Ythfcafllcgjepaa.Q
