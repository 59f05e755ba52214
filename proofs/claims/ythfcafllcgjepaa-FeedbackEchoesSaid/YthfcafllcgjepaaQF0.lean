-- Printed by myprint.py (ours) over the kit's printer, out of the translation.
import Derived.Test.YthfcafllcgjepaaQ0
namespace Go.Proofs.Ythfcafllcgjepaa.Q
open Go.RowKit Go.Proofs.YthfcafllcgjepaaW.PrintWords Go.Proofs.YthfcafllcgjepaaW.PrintLast Go.Proofs.YthfcafllcgjepaaW.PrintMore
attribute [local go_sem] ArrW.ptrOf_slice unary_neg_float unary_neg_complex run_store_float run_store_complex max2_int min2_int max_two min_two max_three min_three max_four min_four   -- for this text's walks alone
set_option linter.unusedVariables false
set_option linter.unusedSimpArgs false

-- NOT PRINTED: function 101 (math_Float64frombits)

/-! ### foghornlaw11_taps: function 23 -/
def foghornlaw11_taps.l0 : Nat → List (S174) → List (Nat × Nat) → Int → Option (List (Nat × Nat))
  | 0, _, _, _ => none
  | k + 1, x0, x3, x4 => if x4 < (x0.length : Int) then (if 0 ≤ x4 then ((floatBits .quo .f64 (floatOfInt .f64 ((rd_T174 x0 x4).f0)) 4634204016564240384).bind fun t108 => ((floatBits .quo .f64 (floatOfInt .f64 ((rd_T174 x0 x4).f1)) 4634204016564240384).bind fun t110 => (if (rd_T174 x0 x4).f2 = true then (if x3.length < 8796093022208 then (foghornlaw11_taps.l0 k x0 (x3 ++ [((IntKind.u64.wrap ((rd_T174 x0 x4).f0)).toNat, (IntKind.u64.wrap ((rd_T174 x0 x4).f1)).toNat)]) (wrap64 (x4 + 1))) else (none)) else (if x3.length < 8796093022208 then (foghornlaw11_taps.l0 k x0 (x3 ++ [(t108, t110)]) (wrap64 (x4 + 1))) else (none))))) else (none)) else (if x3.length < 8796093022208 then (if (x3.length : Int) ≤ ((x3 ++ [(4651892959631900672, 0)]).length : Int) then (some (x3)) else (none)) else (none))
def foghornlaw11_taps.f (k : Nat) (l0 : List (S174)) : Option (List (Nat × Nat)) := foghornlaw11_taps.l0 k l0 ([] : List (Nat × Nat)) 0
theorem foghornlaw11_taps.mono_l : ∀ k, (∀ y0 y1 y2, LeO (foghornlaw11_taps.l0 k y0 y1 y2) (foghornlaw11_taps.l0 (k + 1) y0 y1 y2))
  | 0 => fun _ _ _ r h => by simp [foghornlaw11_taps.l0] at h
  | k + 1 => by
    have ih0 := foghornlaw11_taps.mono_l k
    · intro y0 y1 y2
      unfold foghornlaw11_taps.l0
      repeat' first
      | (with_reducible exact ih0 _ _ _)
      | (with_reducible exact LeO.refl _)
      | (with_reducible exact LeO.none _)
      | (with_reducible refine LeO.ite ?_ ?_)
      | (with_reducible refine LeO.bind ?_ (fun _ => ?_))
      | exact ih0 _ _ _
      | exact LeO.none _
      | refine LeO.ite ?_ ?_
      | refine LeO.bind ?_ (fun _ => ?_)
theorem foghornlaw11_taps.mono : ∀ a0 k, LeO (foghornlaw11_taps.f k a0) (foghornlaw11_taps.f (k + 1) a0) := by
  intro a0 k
  have ih0 := foghornlaw11_taps.mono_l k
  unfold foghornlaw11_taps.f
  repeat' first
      | (with_reducible exact ih0 _ _ _)
      | (with_reducible exact LeO.refl _)
      | (with_reducible exact LeO.none _)
      | (with_reducible refine LeO.ite ?_ ?_)
      | (with_reducible refine LeO.bind ?_ (fun _ => ?_))
      | exact ih0 _ _ _
      | exact LeO.none _
      | refine LeO.ite ?_ ?_
      | refine LeO.bind ?_ (fun _ => ?_)
def foghornlaw11_taps.T5 : Bool × List (List Nat × List Nat) := (true, [([], []), ([], []), ([0, 1], [0, 1]), ([2], [2]), ([3], [3]), ([4], [4]), ([5], [5]), ([], []), ([], []), ([7, 8], [7, 8]), ([9], [9]), ([10], [10]), ([11], [11]), ([12], [12]), ([6, 13], [6, 13]), ([14, 0, 1, 2, 3, 4, 5, 6, 7, 8, 9, 10, 11, 12, 13, 14], [14])])
def foghornlaw11_taps.B5 : List Nat := [0, 0, 3, 7, 15, 31, 63, 0, 0, 384, 896, 1920, 3968, 8064, 16383, 32767]
theorem foghornlaw11_taps.tab5 : rtab .any (opsOf Try.f23 5) = foghornlaw11_taps.T5 := by kernel_rfl
theorem foghornlaw11_taps.bits5 : waitsOk foghornlaw11_taps.T5.2 foghornlaw11_taps.B5 = true := by kernel_rfl
def foghornlaw11_taps.T7 : Bool × List (List Nat × List Nat) := (true, [([], []), ([], []), ([0, 1], [0, 1]), ([2], [2]), ([3], [3]), ([4], [4]), ([5], [5]), ([], []), ([], []), ([7, 8], [7, 8]), ([9], [9]), ([10], [10]), ([11], [11]), ([12, 6], [12]), ([6, 13], [6, 13]), ([14, 13, 0, 1, 2, 3, 4, 5, 6, 7, 8, 9, 10, 11, 12, 13, 14], [14])])
def foghornlaw11_taps.B7 : List Nat := [0, 0, 3, 7, 15, 31, 63, 0, 0, 384, 896, 1920, 3968, 8191, 16383, 32767]
theorem foghornlaw11_taps.tab7 : rtab .any (opsOf Try.f23 7) = foghornlaw11_taps.T7 := by kernel_rfl
theorem foghornlaw11_taps.bits7 : waitsOk foghornlaw11_taps.T7.2 foghornlaw11_taps.B7 = true := by kernel_rfl

/-! ### foghornlaw11_numbers: function 24 -/
def foghornlaw11_numbers.l0 : Nat → List (S146) → List (Nat × Nat) → Int → Option (List (Nat × Nat))
  | 0, _, _, _ => none
  | k + 1, x0, x3, x4 => if x4 < (x0.length : Int) then (if 0 ≤ x4 then ((floatBits .quo .f64 (floatOfInt .f64 ((rd_T146 x0 x4).f0)) 4661225614328463360).bind fun t121 => ((floatBits .quo .f64 (floatOfInt .f64 ((rd_T146 x0 x4).f1)) 4661225614328463360).bind fun t123 => (if x3.length < 14073748835379 then (foghornlaw11_numbers.l0 k x0 (x3 ++ [(t121, t123)]) (wrap64 (x4 + 1))) else (none)))) else (none)) else (if x3.length < 14073748835379 then (if (x3.length : Int) ≤ ((x3 ++ [(4651892959631900672, 0)]).length : Int) then (some (x3)) else (none)) else (none))
def foghornlaw11_numbers.f (k : Nat) (l0 : List (S146)) : Option (List (Nat × Nat)) := foghornlaw11_numbers.l0 k l0 ([] : List (Nat × Nat)) 0
theorem foghornlaw11_numbers.mono_l : ∀ k, (∀ y0 y1 y2, LeO (foghornlaw11_numbers.l0 k y0 y1 y2) (foghornlaw11_numbers.l0 (k + 1) y0 y1 y2))
  | 0 => fun _ _ _ r h => by simp [foghornlaw11_numbers.l0] at h
  | k + 1 => by
    have ih0 := foghornlaw11_numbers.mono_l k
    · intro y0 y1 y2
      unfold foghornlaw11_numbers.l0
      repeat' first
      | (with_reducible exact ih0 _ _ _)
      | (with_reducible exact LeO.refl _)
      | (with_reducible exact LeO.none _)
      | (with_reducible refine LeO.ite ?_ ?_)
      | (with_reducible refine LeO.bind ?_ (fun _ => ?_))
      | exact ih0 _ _ _
      | exact LeO.none _
      | refine LeO.ite ?_ ?_
      | refine LeO.bind ?_ (fun _ => ?_)
theorem foghornlaw11_numbers.mono : ∀ a0 k, LeO (foghornlaw11_numbers.f k a0) (foghornlaw11_numbers.f (k + 1) a0) := by
  intro a0 k
  have ih0 := foghornlaw11_numbers.mono_l k
  unfold foghornlaw11_numbers.f
  repeat' first
      | (with_reducible exact ih0 _ _ _)
      | (with_reducible exact LeO.refl _)
      | (with_reducible exact LeO.none _)
      | (with_reducible refine LeO.ite ?_ ?_)
      | (with_reducible refine LeO.bind ?_ (fun _ => ?_))
      | exact ih0 _ _ _
      | exact LeO.none _
      | refine LeO.ite ?_ ?_
      | refine LeO.bind ?_ (fun _ => ?_)
def foghornlaw11_numbers.T5 : Bool × List (List Nat × List Nat) := (true, [([], []), ([], []), ([], []), ([1, 2], [1, 2]), ([3], [3]), ([4], [4]), ([5], [5]), ([6], [6]), ([], []), ([], []), ([8, 9], [8, 9]), ([10], [10]), ([11], [11]), ([12], [12]), ([13], [13]), ([7, 14], [7, 14]), ([15], [15]), ([0, 16], [0, 16]), ([17, 17, 0, 1, 2, 3, 4, 5, 6, 7, 8, 9, 10, 11, 12, 13, 14, 15, 16, 17], [0, 17])])
def foghornlaw11_numbers.B5 : List Nat := [0, 0, 0, 6, 14, 30, 62, 126, 0, 0, 768, 1792, 3840, 7936, 16128, 32766, 65534, 131071, 262143]
theorem foghornlaw11_numbers.tab5 : rtab .any (opsOf Try.f24 5) = foghornlaw11_numbers.T5 := by kernel_rfl
theorem foghornlaw11_numbers.bits5 : waitsOk foghornlaw11_numbers.T5.2 foghornlaw11_numbers.B5 = true := by kernel_rfl

/-! ### foghornref11_step: function 142 -/
def foghornref11_step.f (a0 : Nat) : Option (Bool) := if (FloatKind.f64.format.order a0 13830554455654793216 == some .gt || FloatKind.f64.format.order a0 13830554455654793216 == some .eq) = true then (if (FloatKind.f64.format.order a0 4607182418800017408 == some .lt || FloatKind.f64.format.order a0 4607182418800017408 == some .eq) = true then ((floatBits .mul .f64 a0 4634204016564240384).bind fun t133 => ((floatToIntVal .f64 t133 .i64).bind fun t134 => (some (FloatKind.f64.format.order (floatOfInt .f64 t134) t133 == some .eq)))) else (some false)) else (some false)

/-! ### foghornref11_size: function 143 -/
def foghornref11_size.f (a0 : Nat) : Option (Nat) := if (FloatKind.f64.format.order a0 0 == some .lt) = true then (some (Op.negFloat .f64 a0)) else (some a0)

/-! ### foghornref11_Taps: function 102 -/
mutual
def foghornref11_Taps.j0 : Nat → List (Nat × Nat) → Bool → Option (Bool)
  | 0, _, _ => none
  | k + 1, x0, x12 => if x12 = true then (some false) else (foghornref11_Taps.l0 k x0 0 0)
def foghornref11_Taps.l0 : Nat → List (Nat × Nat) → Nat → Int → Option (Bool)
  | 0, _, _, _ => none
  | k + 1, x0, x3, x4 => if x4 < (x0.length : Int) then (if 0 ≤ x4 then ((foghornref11_step.f ((rdOf (0, 0) x0 x4).1)).bind fun t136 => (if t136 = true then ((foghornref11_step.f ((rdOf (0, 0) x0 x4).2)).bind fun t138 => (foghornref11_Taps.j2 k x0 x3 x4 (!t138))) else (foghornref11_Taps.j2 k x0 x3 x4 true))) else (none)) else (some (FloatKind.f64.format.order x3 4616189618054758400 == some .lt || FloatKind.f64.format.order x3 4616189618054758400 == some .eq))
def foghornref11_Taps.j2 : Nat → List (Nat × Nat) → Nat → Int → Bool → Option (Bool)
  | 0, _, _, _, _ => none
  | k + 1, x0, x3, x4, x34 => if x34 = true then (some false) else (if 0 ≤ x4 then (if x4 < (x0.length : Int) then ((foghornref11_size.f ((rdOf (0, 0) x0 x4).1)).bind fun t140 => ((floatBits .add .f64 x3 t140).bind fun t141 => ((foghornref11_size.f ((rdOf (0, 0) x0 x4).2)).bind fun t143 => ((floatBits .add .f64 t141 t143).bind fun t144 => (foghornref11_Taps.l0 k x0 t144 (wrap64 (x4 + 1))))))) else (none)) else (none))
end
def foghornref11_Taps.f (k : Nat) (l0 : List (Nat × Nat)) : Option (Bool) := if (l0.length : Int) < 1 then (foghornref11_Taps.j0 k l0 true) else (foghornref11_Taps.j0 k l0 (decide ((l0.length : Int) > 64)))
theorem foghornref11_Taps.mono_l : ∀ k, (∀ y0 y1, LeO (foghornref11_Taps.j0 k y0 y1) (foghornref11_Taps.j0 (k + 1) y0 y1)) ∧ (∀ y0 y1 y2, LeO (foghornref11_Taps.l0 k y0 y1 y2) (foghornref11_Taps.l0 (k + 1) y0 y1 y2)) ∧ (∀ y0 y1 y2 y3, LeO (foghornref11_Taps.j2 k y0 y1 y2 y3) (foghornref11_Taps.j2 (k + 1) y0 y1 y2 y3))
  | 0 => ⟨fun _ _ r h => by simp [foghornref11_Taps.j0] at h, fun _ _ _ r h => by simp [foghornref11_Taps.l0] at h, fun _ _ _ _ r h => by simp [foghornref11_Taps.j2] at h⟩
  | k + 1 => by
    obtain ⟨ih0, ih1, ih2⟩ := foghornref11_Taps.mono_l k
    refine ⟨?_, ?_, ?_⟩
    · intro y0 y1
      unfold foghornref11_Taps.j0
      repeat' first
      | (with_reducible exact ih0 _ _)
      | (with_reducible exact ih1 _ _ _)
      | (with_reducible exact ih2 _ _ _ _)
      | (with_reducible exact LeO.refl _)
      | (with_reducible exact LeO.none _)
      | (with_reducible refine LeO.ite ?_ ?_)
      | (with_reducible refine LeO.bind ?_ (fun _ => ?_))
      | exact ih0 _ _
      | exact ih1 _ _ _
      | exact ih2 _ _ _ _
      | exact LeO.none _
      | refine LeO.ite ?_ ?_
      | refine LeO.bind ?_ (fun _ => ?_)
    · intro y0 y1 y2
      unfold foghornref11_Taps.l0
      repeat' first
      | (with_reducible exact ih0 _ _)
      | (with_reducible exact ih1 _ _ _)
      | (with_reducible exact ih2 _ _ _ _)
      | (with_reducible exact LeO.refl _)
      | (with_reducible exact LeO.none _)
      | (with_reducible refine LeO.ite ?_ ?_)
      | (with_reducible refine LeO.bind ?_ (fun _ => ?_))
      | exact ih0 _ _
      | exact ih1 _ _ _
      | exact ih2 _ _ _ _
      | exact LeO.none _
      | refine LeO.ite ?_ ?_
      | refine LeO.bind ?_ (fun _ => ?_)
    · intro y0 y1 y2 y3
      unfold foghornref11_Taps.j2
      repeat' first
      | (with_reducible exact ih0 _ _)
      | (with_reducible exact ih1 _ _ _)
      | (with_reducible exact ih2 _ _ _ _)
      | (with_reducible exact LeO.refl _)
      | (with_reducible exact LeO.none _)
      | (with_reducible refine LeO.ite ?_ ?_)
      | (with_reducible refine LeO.bind ?_ (fun _ => ?_))
      | exact ih0 _ _
      | exact ih1 _ _ _
      | exact ih2 _ _ _ _
      | exact LeO.none _
      | refine LeO.ite ?_ ?_
      | refine LeO.bind ?_ (fun _ => ?_)
theorem foghornref11_Taps.mono : ∀ a0 k, LeO (foghornref11_Taps.f k a0) (foghornref11_Taps.f (k + 1) a0) := by
  intro a0 k
  obtain ⟨ih0, ih1, ih2⟩ := foghornref11_Taps.mono_l k
  unfold foghornref11_Taps.f
  repeat' first
      | (with_reducible exact ih0 _ _)
      | (with_reducible exact ih1 _ _ _)
      | (with_reducible exact ih2 _ _ _ _)
      | (with_reducible exact LeO.refl _)
      | (with_reducible exact LeO.none _)
      | (with_reducible refine LeO.ite ?_ ?_)
      | (with_reducible refine LeO.bind ?_ (fun _ => ?_))
      | exact ih0 _ _
      | exact ih1 _ _ _
      | exact ih2 _ _ _ _
      | exact LeO.none _
      | refine LeO.ite ?_ ?_
      | refine LeO.bind ?_ (fun _ => ?_)

/-! ### foghornref02_On: function 103 -/
def foghornref02_On.f (a0 : Nat) : Option (Bool) := if (FloatKind.f64.format.order a0 13875590451928498176 == some .gt || FloatKind.f64.format.order a0 13875590451928498176 == some .eq) = true then (if ((FloatKind.f64.format.order a0 4652218415073722368 == some .lt || FloatKind.f64.format.order a0 4652218415073722368 == some .eq) = true) then ((floatBits .mul .f64 a0 4661225614328463360).bind fun t145 => ((floatToIntVal .f64 t145 .i64).bind fun t146 => (some (FloatKind.f64.format.order (floatOfInt .f64 t146) t145 == some .eq)))) else (some false)) else (some false)

/-! ### foghornref11_mul: function 104 -/
def foghornref11_mul.f (a0 : (Nat × Nat)) (a1 : (Nat × Nat)) : Option ((Nat × Nat)) := (floatBits .mul .f64 a0.1 a1.1).bind fun t147 => ((floatBits .mul .f64 a0.2 a1.2).bind fun t148 => ((floatBits .sub .f64 t147 t148).bind fun t149 => ((floatBits .mul .f64 a0.1 a1.2).bind fun t150 => ((floatBits .mul .f64 a0.2 a1.1).bind fun t151 => ((floatBits .add .f64 t150 t151).bind fun t152 => (some (t149, t152)))))))

/-! ### foghornref11_Echo: function 25 -/
mutual
def foghornref11_Echo.l0 : Nat → List (Nat × Nat) → List (Nat × Nat) → Int → Option (List (Nat × Nat) × Int)
  | 0, _, _, _ => none
  | k + 1, x0, x1, x6 => if x6 < (x1.length : Int) then (if 0 ≤ x6 then ((foghornref02_On.f ((rdOf (0, 0) x1 x6).1)).bind fun t155 => (if t155 = true then ((foghornref02_On.f ((rdOf (0, 0) x1 x6).2)).bind fun t157 => (if t157 = true then (foghornref11_Echo.l0 k x0 x1 (wrap64 (x6 + 1))) else (some (([] : List (Nat × Nat)), 7)))) else (some (([] : List (Nat × Nat)), 7)))) else (none)) else (foghornref11_Echo.l1 k x0 x1 ([] : List (Nat × Nat)) 0)
def foghornref11_Echo.l1 : Nat → List (Nat × Nat) → List (Nat × Nat) → List (Nat × Nat) → Int → Option (List (Nat × Nat) × Int)
  | 0, _, _, _, _ => none
  | k + 1, x0, x1, x7, x8 => if x8 < (x1.length : Int) then (foghornref11_Echo.l2 k x0 x1 x7 x8 (0, 0) 0) else (some (x7, 0))
def foghornref11_Echo.l2 : Nat → List (Nat × Nat) → List (Nat × Nat) → List (Nat × Nat) → Int → (Nat × Nat) → Int → Option (List (Nat × Nat) × Int)
  | 0, _, _, _, _, _, _ => none
  | k + 1, x0, x1, x7, x8, x9, x10 => if x10 < (x0.length : Int) then (if x10 ≤ x8 then (if 0 ≤ x10 then (if 0 ≤ (wrap64 (x8 - x10)) then (if (wrap64 (x8 - x10)) < (x1.length : Int) then ((foghornref11_mul.f (rdOf (0, 0) x0 x10) (rdOf (0, 0) x1 (wrap64 (x8 - x10)))).bind fun t160 => ((floatBits .add .f64 x9.1 t160.1).bind fun t161 => ((floatBits .add .f64 x9.2 t160.2).bind fun t162 => (foghornref11_Echo.l2 k x0 x1 x7 x8 (t161, t162) (wrap64 (x10 + 1)))))) else (none)) else (none)) else (none)) else (if x7.length < 8796093022208 then (foghornref11_Echo.l1 k x0 x1 (x7 ++ [x9]) (wrap64 (x8 + 1))) else (none))) else (if x7.length < 8796093022208 then (foghornref11_Echo.l1 k x0 x1 (x7 ++ [x9]) (wrap64 (x8 + 1))) else (none))
end
def foghornref11_Echo.f (k : Nat) (l0 : List (Nat × Nat)) (l1 : List (Nat × Nat)) : Option (List (Nat × Nat) × Int) := (foghornref11_Taps.f k l0).bind fun t153 => (if t153 = true then (if (l1.length : Int) > 65536 then (some (([] : List (Nat × Nat)), 1)) else (foghornref11_Echo.l0 k l0 l1 0)) else (some (([] : List (Nat × Nat)), 8)))
theorem foghornref11_Echo.mono_l : ∀ k, (∀ y0 y1 y2, LeO (foghornref11_Echo.l0 k y0 y1 y2) (foghornref11_Echo.l0 (k + 1) y0 y1 y2)) ∧ (∀ y0 y1 y2 y3, LeO (foghornref11_Echo.l1 k y0 y1 y2 y3) (foghornref11_Echo.l1 (k + 1) y0 y1 y2 y3)) ∧ (∀ y0 y1 y2 y3 y4 y5, LeO (foghornref11_Echo.l2 k y0 y1 y2 y3 y4 y5) (foghornref11_Echo.l2 (k + 1) y0 y1 y2 y3 y4 y5))
  | 0 => ⟨fun _ _ _ r h => by simp [foghornref11_Echo.l0] at h, fun _ _ _ _ r h => by simp [foghornref11_Echo.l1] at h, fun _ _ _ _ _ _ r h => by simp [foghornref11_Echo.l2] at h⟩
  | k + 1 => by
    obtain ⟨ih0, ih1, ih2⟩ := foghornref11_Echo.mono_l k
    refine ⟨?_, ?_, ?_⟩
    · intro y0 y1 y2
      unfold foghornref11_Echo.l0
      repeat' first
      | (with_reducible exact ih0 _ _ _)
      | (with_reducible exact ih1 _ _ _ _)
      | (with_reducible exact ih2 _ _ _ _ _ _)
      | (with_reducible exact foghornref11_Taps.mono _ _)
      | (with_reducible exact LeO.refl _)
      | (with_reducible exact LeO.none _)
      | (with_reducible refine LeO.ite ?_ ?_)
      | (with_reducible refine LeO.bind ?_ (fun _ => ?_))
      | exact ih0 _ _ _
      | exact ih1 _ _ _ _
      | exact ih2 _ _ _ _ _ _
      | exact foghornref11_Taps.mono _ _
      | exact LeO.none _
      | refine LeO.ite ?_ ?_
      | refine LeO.bind ?_ (fun _ => ?_)
    · intro y0 y1 y2 y3
      unfold foghornref11_Echo.l1
      repeat' first
      | (with_reducible exact ih0 _ _ _)
      | (with_reducible exact ih1 _ _ _ _)
      | (with_reducible exact ih2 _ _ _ _ _ _)
      | (with_reducible exact foghornref11_Taps.mono _ _)
      | (with_reducible exact LeO.refl _)
      | (with_reducible exact LeO.none _)
      | (with_reducible refine LeO.ite ?_ ?_)
      | (with_reducible refine LeO.bind ?_ (fun _ => ?_))
      | exact ih0 _ _ _
      | exact ih1 _ _ _ _
      | exact ih2 _ _ _ _ _ _
      | exact foghornref11_Taps.mono _ _
      | exact LeO.none _
      | refine LeO.ite ?_ ?_
      | refine LeO.bind ?_ (fun _ => ?_)
    · intro y0 y1 y2 y3 y4 y5
      unfold foghornref11_Echo.l2
      repeat' first
      | (with_reducible exact ih0 _ _ _)
      | (with_reducible exact ih1 _ _ _ _)
      | (with_reducible exact ih2 _ _ _ _ _ _)
      | (with_reducible exact foghornref11_Taps.mono _ _)
      | (with_reducible exact LeO.refl _)
      | (with_reducible exact LeO.none _)
      | (with_reducible refine LeO.ite ?_ ?_)
      | (with_reducible refine LeO.bind ?_ (fun _ => ?_))
      | exact ih0 _ _ _
      | exact ih1 _ _ _ _
      | exact ih2 _ _ _ _ _ _
      | exact foghornref11_Taps.mono _ _
      | exact LeO.none _
      | refine LeO.ite ?_ ?_
      | refine LeO.bind ?_ (fun _ => ?_)
theorem foghornref11_Echo.mono : ∀ a0 a1 k, LeO (foghornref11_Echo.f k a0 a1) (foghornref11_Echo.f (k + 1) a0 a1) := by
  intro a0 a1 k
  obtain ⟨ih0, ih1, ih2⟩ := foghornref11_Echo.mono_l k
  unfold foghornref11_Echo.f
  repeat' first
      | (with_reducible exact ih0 _ _ _)
      | (with_reducible exact ih1 _ _ _ _)
      | (with_reducible exact ih2 _ _ _ _ _ _)
      | (with_reducible exact foghornref11_Taps.mono _ _)
      | (with_reducible exact LeO.refl _)
      | (with_reducible exact LeO.none _)
      | (with_reducible refine LeO.ite ?_ ?_)
      | (with_reducible refine LeO.bind ?_ (fun _ => ?_))
      | exact ih0 _ _ _
      | exact ih1 _ _ _ _
      | exact ih2 _ _ _ _ _ _
      | exact foghornref11_Taps.mono _ _
      | exact LeO.none _
      | refine LeO.ite ?_ ?_
      | refine LeO.bind ?_ (fun _ => ?_)
def foghornref11_Echo.T18 : Bool × List (List Nat × List Nat) := (true, [([], []), ([], []), ([0, 1], [0, 1]), ([2], [2]), ([], []), ([], []), ([], []), ([5, 6], [5, 6]), ([4, 7], [4, 7]), ([8], [8]), ([3, 9], [3, 9]), ([10, 10, 0, 1, 2, 3, 4, 5, 6, 7, 8, 9, 10], [10])])
def foghornref11_Echo.B18 : List Nat := [0, 0, 3, 7, 0, 0, 0, 96, 240, 496, 1023, 2047]
theorem foghornref11_Echo.tab18 : rtab .any (opsOf Try.f25 18) = foghornref11_Echo.T18 := by kernel_rfl
theorem foghornref11_Echo.bits18 : waitsOk foghornref11_Echo.T18.2 foghornref11_Echo.B18 = true := by kernel_rfl

/-! ### math_Abs: function 131 -/
def math_Abs.f (a0 : Nat) : Option (Nat) := some ((Go.bits .andNot .u64 (a0 : Int) 9223372036854775808).toNat)

/-! ### math_IsNaN: function 113 -/
def math_IsNaN.f (a0 : Nat) : Option (Bool) := some (FloatKind.f64.format.order a0 a0 != some .eq)

/-! ### math_IsInf: function 153 -/
def math_IsInf.f (a0 : Nat) (a1 : Int) : Option (Bool) := if a1 = 0 then ((math_Abs.f a0).bind fun t169 => (some (FloatKind.f64.format.order t169 9218868437227405311 == some .gt))) else (if a1 < 0 then (some (FloatKind.f64.format.order (Op.negFloat .f64 a0) 9218868437227405311 == some .gt)) else (some (FloatKind.f64.format.order a0 9218868437227405311 == some .gt)))

/-! ### math_Copysign: function 179 -/
def math_Copysign.f (a0 : Nat) (a1 : Nat) : Option (Nat) := some ((Go.bits .or .u64 (Go.bits .andNot .u64 (a0 : Int) 9223372036854775808) (Go.bits .and .u64 (a1 : Int) 9223372036854775808)).toNat)

/-! ### math_trunc: function 182 -/
def math_trunc.f (a0 : Nat) : Option (Nat) := (math_Abs.f a0).bind fun t170 => (if (FloatKind.f64.format.order t170 4607182418800017408 == some .lt) = true then ((math_Copysign.f 0 a0).bind fun t171 => (some t171)) else (if (IntKind.u64.wrap ((Go.bits .and .u64 ((a0 : Int) / 4503599627370496) 2047) - 1023)) < 52 then (if 0 ≤ (IntKind.u64.wrap (52 - (IntKind.u64.wrap ((Go.bits .and .u64 ((a0 : Int) / 4503599627370496) 2047) - 1023)))) then (some ((Go.bits .andNot .u64 (a0 : Int) (IntKind.u64.wrap ((shl .u64 1 (IntKind.u64.wrap (52 - (IntKind.u64.wrap ((Go.bits .and .u64 ((a0 : Int) / 4503599627370496) 2047) - 1023))))) - 1))).toNat)) else (none)) else (some ((a0 : Int).toNat))))

/-! ### math_Trunc: function 178 -/
def math_Trunc.f (a0 : Nat) : Option (Nat) := (integF .zero a0).bind fun t172 => (some t172)

/-! ### math_Modf: function 175 -/
def math_Modf.f (a0 : Nat) : Option (Nat × Nat) := (math_Trunc.f a0).bind fun t173 => ((floatBits .sub .f64 a0 t173).bind fun t174 => ((math_Copysign.f t174 a0).bind fun t175 => (some (t173, t175))))

/-! ### math_floor: function 164 -/
def math_floor.j0 : Nat → Nat → Bool → Option (Nat)
  | 0, _, _ => none
  | k + 1, x0, x16 => if x16 = true then (some x0) else (if (FloatKind.f64.format.order x0 0 == some .lt) = true then ((math_Modf.f (Op.negFloat .f64 x0)).bind fun bt178 => (if (FloatKind.f64.format.order bt178.2 0 != some .eq) = true then ((floatBits .add .f64 bt178.1 4607182418800017408).bind fun t180 => (some (Op.negFloat .f64 t180))) else (some (Op.negFloat .f64 bt178.1)))) else ((math_Modf.f x0).bind fun bt181 => (some bt181.1)))
def math_floor.f (k : Nat) (a0 : Nat) : Option (Nat) := if (FloatKind.f64.format.order a0 0 == some .eq) = true then (math_floor.j0 k a0 true) else ((math_IsNaN.f a0).bind fun t176 => (if t176 = true then (math_floor.j0 k a0 true) else ((math_IsInf.f a0 0).bind fun t177 => (math_floor.j0 k a0 t177))))
theorem math_floor.mono_l : ∀ k, (∀ y0 y1, LeO (math_floor.j0 k y0 y1) (math_floor.j0 (k + 1) y0 y1))
  | 0 => fun _ _ r h => by simp [math_floor.j0] at h
  | k + 1 => by
    have ih0 := math_floor.mono_l k
    · intro y0 y1
      unfold math_floor.j0
      repeat' first
      | (with_reducible exact ih0 _ _)
      | (with_reducible exact LeO.refl _)
      | (with_reducible exact LeO.none _)
      | (with_reducible refine LeO.ite ?_ ?_)
      | (with_reducible refine LeO.bind ?_ (fun _ => ?_))
      | exact ih0 _ _
      | exact LeO.none _
      | refine LeO.ite ?_ ?_
      | refine LeO.bind ?_ (fun _ => ?_)
theorem math_floor.mono : ∀ a0 k, LeO (math_floor.f k a0) (math_floor.f (k + 1) a0) := by
  intro a0 k
  have ih0 := math_floor.mono_l k
  unfold math_floor.f
  repeat' first
      | (with_reducible exact ih0 _ _)
      | (with_reducible exact LeO.refl _)
      | (with_reducible exact LeO.none _)
      | (with_reducible refine LeO.ite ?_ ?_)
      | (with_reducible refine LeO.bind ?_ (fun _ => ?_))
      | exact ih0 _ _
      | exact LeO.none _
      | refine LeO.ite ?_ ?_
      | refine LeO.bind ?_ (fun _ => ?_)

/-! ### math_Floor: function 146 -/
def math_Floor.f (a0 : Nat) : Option (Nat) := (integF .down a0).bind fun t183 => (some t183)

/-! ### feedback_step: function 144 -/
def feedback_step.f (a0 : Nat) : Option (Bool) := (math_Abs.f a0).bind fun t184 => (if (FloatKind.f64.format.order t184 4607182418800017408 == some .lt || FloatKind.f64.format.order t184 4607182418800017408 == some .eq) = true then ((floatBits .mul .f64 a0 4634204016564240384).bind fun t185 => ((math_Floor.f t185).bind fun t186 => (some (FloatKind.f64.format.order t186 t185 == some .eq)))) else (some false))

/-! ### feedback_taps: function 105 -/
mutual
def feedback_taps.l0 : Nat → List (Nat × Nat) → Nat → List (Nat × Nat) → Int → Int → Option (Bool)
  | 0, _, _, _, _, _ => none
  | k + 1, x0, x3, x6, x7, x8 => if x8 < x7 then (if 0 ≤ x8 then (if x8 < (x6.length : Int) then ((feedback_step.f ((rdOf (0, 0) x6 x8).1)).bind fun t188 => (if t188 = true then ((feedback_step.f ((rdOf (0, 0) x6 x8).2)).bind fun t189 => (feedback_taps.j1 k x0 x3 (rdOf (0, 0) x6 x8) x6 x7 x8 (!t189))) else (feedback_taps.j1 k x0 x3 (rdOf (0, 0) x6 x8) x6 x7 x8 true))) else (none)) else (none)) else (if (x0.length : Int) > 0 then (if (x0.length : Int) ≤ 64 then (some (FloatKind.f64.format.order x3 4616189618054758400 == some .lt || FloatKind.f64.format.order x3 4616189618054758400 == some .eq)) else (some false)) else (some false))
def feedback_taps.j1 : Nat → List (Nat × Nat) → Nat → (Nat × Nat) → List (Nat × Nat) → Int → Int → Bool → Option (Bool)
  | 0, _, _, _, _, _, _, _ => none
  | k + 1, x0, x3, x5, x6, x7, x8, x21 => if x21 = true then (some false) else ((math_Abs.f x5.1).bind fun t190 => ((math_Abs.f x5.2).bind fun t191 => ((floatBits .add .f64 t190 t191).bind fun t192 => ((floatBits .add .f64 x3 t192).bind fun t193 => (feedback_taps.l0 k x0 t193 x6 x7 (wrap64 (x8 + 1)))))))
end
def feedback_taps.f (k : Nat) (l0 : List (Nat × Nat)) : Option (Bool) := feedback_taps.l0 k l0 0 l0 (l0.length : Int) 0
theorem feedback_taps.mono_l : ∀ k, (∀ y0 y1 y2 y3 y4, LeO (feedback_taps.l0 k y0 y1 y2 y3 y4) (feedback_taps.l0 (k + 1) y0 y1 y2 y3 y4)) ∧ (∀ y0 y1 y2 y3 y4 y5 y6, LeO (feedback_taps.j1 k y0 y1 y2 y3 y4 y5 y6) (feedback_taps.j1 (k + 1) y0 y1 y2 y3 y4 y5 y6))
  | 0 => ⟨fun _ _ _ _ _ r h => by simp [feedback_taps.l0] at h, fun _ _ _ _ _ _ _ r h => by simp [feedback_taps.j1] at h⟩
  | k + 1 => by
    obtain ⟨ih0, ih1⟩ := feedback_taps.mono_l k
    refine ⟨?_, ?_⟩
    · intro y0 y1 y2 y3 y4
      unfold feedback_taps.l0
      repeat' first
      | (with_reducible exact ih0 _ _ _ _ _)
      | (with_reducible exact ih1 _ _ _ _ _ _ _)
      | (with_reducible exact LeO.refl _)
      | (with_reducible exact LeO.none _)
      | (with_reducible refine LeO.ite ?_ ?_)
      | (with_reducible refine LeO.bind ?_ (fun _ => ?_))
      | exact ih0 _ _ _ _ _
      | exact ih1 _ _ _ _ _ _ _
      | exact LeO.none _
      | refine LeO.ite ?_ ?_
      | refine LeO.bind ?_ (fun _ => ?_)
    · intro y0 y1 y2 y3 y4 y5 y6
      unfold feedback_taps.j1
      repeat' first
      | (with_reducible exact ih0 _ _ _ _ _)
      | (with_reducible exact ih1 _ _ _ _ _ _ _)
      | (with_reducible exact LeO.refl _)
      | (with_reducible exact LeO.none _)
      | (with_reducible refine LeO.ite ?_ ?_)
      | (with_reducible refine LeO.bind ?_ (fun _ => ?_))
      | exact ih0 _ _ _ _ _
      | exact ih1 _ _ _ _ _ _ _
      | exact LeO.none _
      | refine LeO.ite ?_ ?_
      | refine LeO.bind ?_ (fun _ => ?_)
theorem feedback_taps.mono : ∀ a0 k, LeO (feedback_taps.f k a0) (feedback_taps.f (k + 1) a0) := by
  intro a0 k
  obtain ⟨ih0, ih1⟩ := feedback_taps.mono_l k
  unfold feedback_taps.f
  repeat' first
      | (with_reducible exact ih0 _ _ _ _ _)
      | (with_reducible exact ih1 _ _ _ _ _ _ _)
      | (with_reducible exact LeO.refl _)
      | (with_reducible exact LeO.none _)
      | (with_reducible refine LeO.ite ?_ ?_)
      | (with_reducible refine LeO.bind ?_ (fun _ => ?_))
      | exact ih0 _ _ _ _ _
      | exact ih1 _ _ _ _ _ _ _
      | exact LeO.none _
      | refine LeO.ite ?_ ?_
      | refine LeO.bind ?_ (fun _ => ?_)

/-! ### grid_within: function 145 -/
def grid_within.f (a0 : Nat) : Option (Bool) := if (FloatKind.f64.format.order a0 13875590451928498176 == some .gt || FloatKind.f64.format.order a0 13875590451928498176 == some .eq) = true then (some (FloatKind.f64.format.order a0 4652218415073722368 == some .lt || FloatKind.f64.format.order a0 4652218415073722368 == some .eq)) else (some false)

/-! ### grid_On: function 106 -/
def grid_On.f (a0 : Nat) : Option (Bool) := (grid_within.f a0).bind fun t194 => (if t194 = true then ((floatBits .mul .f64 a0 4661225614328463360).bind fun t195 => ((math_Floor.f t195).bind fun t196 => (some (FloatKind.f64.format.order t196 t195 == some .eq)))) else (some false))

/-! ### feedback_times: function 107 -/
def feedback_times.f (a0 : (Nat × Nat)) (a1 : (Nat × Nat)) : Option (Nat × Nat) := (floatBits .mul .f64 a0.1 a1.1).bind fun t197 => ((floatBits .mul .f64 a0.2 a1.2).bind fun t198 => ((floatBits .sub .f64 t197 t198).bind fun t199 => ((floatBits .mul .f64 a0.1 a1.2).bind fun t200 => ((floatBits .mul .f64 a0.2 a1.1).bind fun t201 => ((floatBits .add .f64 t200 t201).bind fun t202 => (some (t199, t202)))))))

/-! ### feedback_Echo: function 26 -/
mutual
def feedback_Echo.l0 : Nat → List (Nat × Nat) → List (Nat × Nat) → List (Nat × Nat) → Int → Int → Option (List (Nat × Nat) × Int)
  | 0, _, _, _, _, _ => none
  | k + 1, x0, x1, x24, x25, x26 => if x26 < x25 then (if 0 ≤ x26 then (if x26 < (x24.length : Int) then ((grid_On.f ((rdOf (0, 0) x24 x26).1)).bind fun t205 => (if t205 = true then ((grid_On.f ((rdOf (0, 0) x24 x26).2)).bind fun t206 => (if t206 = true then (feedback_Echo.l0 k x0 x1 x24 x25 (wrap64 (x26 + 1))) else (some (([] : List (Nat × Nat)), 7)))) else (some (([] : List (Nat × Nat)), 7)))) else (none)) else (none)) else (if 0 ≤ (x1.length : Int) then (if ((x1.length : Int) : Int).toNat ≤ 17592186044416 then (feedback_Echo.l1 k x0 x1 (List.replicate 0 ((0, 0) : Nat × Nat)) (x1.length : Int) 0) else (none)) else (none))
def feedback_Echo.l1 : Nat → List (Nat × Nat) → List (Nat × Nat) → List (Nat × Nat) → Int → Int → Option (List (Nat × Nat) × Int)
  | 0, _, _, _, _, _ => none
  | k + 1, x0, x1, x8, x45, x46 => if x46 < x45 then (if 0 ≤ (mn (x0.length : Int) (wrap64 (x46 + 1))) then (if (mn (x0.length : Int) (wrap64 (x46 + 1))) ≤ (x0.length : Int) then (feedback_Echo.l2 k x0 x1 x8 x46 0 0 x45 x46 (x0.take ((mn (x0.length : Int) (wrap64 (x46 + 1))) : Int).toNat) ((x0.take ((mn (x0.length : Int) (wrap64 (x46 + 1))) : Int).toNat).length : Int) 0) else (none)) else (none)) else (some (x8, 0))
def feedback_Echo.l2 : Nat → List (Nat × Nat) → List (Nat × Nat) → List (Nat × Nat) → Int → Nat → Nat → Int → Int → List (Nat × Nat) → Int → Int → Option (List (Nat × Nat) × Int)
  | 0, _, _, _, _, _, _, _, _, _, _, _ => none
  | k + 1, x0, x1, x8, x9, x10, x11, x45, x46, x55, x56, x57 => if x57 < x56 then (if 0 ≤ x57 then (if x57 < (x55.length : Int) then (if 0 ≤ (wrap64 (x9 - x57)) then (if (wrap64 (x9 - x57)) < (x1.length : Int) then ((feedback_times.f (rdOf (0, 0) x55 x57) (rdOf (0, 0) x1 (wrap64 (x9 - x57)))).bind fun bt213 => ((floatBits .add .f64 x10 bt213.1).bind fun t215 => ((floatBits .add .f64 x11 bt213.2).bind fun t216 => (feedback_Echo.l2 k x0 x1 x8 x9 t215 t216 x45 x46 x55 x56 (wrap64 (x57 + 1)))))) else (none)) else (none)) else (none)) else (none)) else (if x8.length < 8796093022208 then (feedback_Echo.l1 k x0 x1 (x8 ++ [(x10, x11)]) x45 (wrap64 (x46 + 1))) else (none))
end
def feedback_Echo.f (k : Nat) (l0 : List (Nat × Nat)) (l1 : List (Nat × Nat)) : Option (List (Nat × Nat) × Int) := (feedback_taps.f k l0).bind fun t203 => (if t203 = true then (if (l1.length : Int) > 65536 then (some (([] : List (Nat × Nat)), 1)) else (feedback_Echo.l0 k l0 l1 l1 (l1.length : Int) 0)) else (some (([] : List (Nat × Nat)), 8)))
theorem feedback_Echo.mono_l : ∀ k, (∀ y0 y1 y2 y3 y4, LeO (feedback_Echo.l0 k y0 y1 y2 y3 y4) (feedback_Echo.l0 (k + 1) y0 y1 y2 y3 y4)) ∧ (∀ y0 y1 y2 y3 y4, LeO (feedback_Echo.l1 k y0 y1 y2 y3 y4) (feedback_Echo.l1 (k + 1) y0 y1 y2 y3 y4)) ∧ (∀ y0 y1 y2 y3 y4 y5 y6 y7 y8 y9 y10, LeO (feedback_Echo.l2 k y0 y1 y2 y3 y4 y5 y6 y7 y8 y9 y10) (feedback_Echo.l2 (k + 1) y0 y1 y2 y3 y4 y5 y6 y7 y8 y9 y10))
  | 0 => ⟨fun _ _ _ _ _ r h => by simp [feedback_Echo.l0] at h, fun _ _ _ _ _ r h => by simp [feedback_Echo.l1] at h, fun _ _ _ _ _ _ _ _ _ _ _ r h => by simp [feedback_Echo.l2] at h⟩
  | k + 1 => by
    obtain ⟨ih0, ih1, ih2⟩ := feedback_Echo.mono_l k
    refine ⟨?_, ?_, ?_⟩
    · intro y0 y1 y2 y3 y4
      unfold feedback_Echo.l0
      repeat' first
      | (with_reducible exact ih0 _ _ _ _ _)
      | (with_reducible exact ih1 _ _ _ _ _)
      | (with_reducible exact ih2 _ _ _ _ _ _ _ _ _ _ _)
      | (with_reducible exact feedback_taps.mono _ _)
      | (with_reducible exact LeO.refl _)
      | (with_reducible exact LeO.none _)
      | (with_reducible refine LeO.ite ?_ ?_)
      | (with_reducible refine LeO.bind ?_ (fun _ => ?_))
      | exact ih0 _ _ _ _ _
      | exact ih1 _ _ _ _ _
      | exact ih2 _ _ _ _ _ _ _ _ _ _ _
      | exact feedback_taps.mono _ _
      | exact LeO.none _
      | refine LeO.ite ?_ ?_
      | refine LeO.bind ?_ (fun _ => ?_)
    · intro y0 y1 y2 y3 y4
      unfold feedback_Echo.l1
      repeat' first
      | (with_reducible exact ih0 _ _ _ _ _)
      | (with_reducible exact ih1 _ _ _ _ _)
      | (with_reducible exact ih2 _ _ _ _ _ _ _ _ _ _ _)
      | (with_reducible exact feedback_taps.mono _ _)
      | (with_reducible exact LeO.refl _)
      | (with_reducible exact LeO.none _)
      | (with_reducible refine LeO.ite ?_ ?_)
      | (with_reducible refine LeO.bind ?_ (fun _ => ?_))
      | exact ih0 _ _ _ _ _
      | exact ih1 _ _ _ _ _
      | exact ih2 _ _ _ _ _ _ _ _ _ _ _
      | exact feedback_taps.mono _ _
      | exact LeO.none _
      | refine LeO.ite ?_ ?_
      | refine LeO.bind ?_ (fun _ => ?_)
    · intro y0 y1 y2 y3 y4 y5 y6 y7 y8 y9 y10
      unfold feedback_Echo.l2
      repeat' first
      | (with_reducible exact ih0 _ _ _ _ _)
      | (with_reducible exact ih1 _ _ _ _ _)
      | (with_reducible exact ih2 _ _ _ _ _ _ _ _ _ _ _)
      | (with_reducible exact feedback_taps.mono _ _)
      | (with_reducible exact LeO.refl _)
      | (with_reducible exact LeO.none _)
      | (with_reducible refine LeO.ite ?_ ?_)
      | (with_reducible refine LeO.bind ?_ (fun _ => ?_))
      | exact ih0 _ _ _ _ _
      | exact ih1 _ _ _ _ _
      | exact ih2 _ _ _ _ _ _ _ _ _ _ _
      | exact feedback_taps.mono _ _
      | exact LeO.none _
      | refine LeO.ite ?_ ?_
      | refine LeO.bind ?_ (fun _ => ?_)
theorem feedback_Echo.mono : ∀ a0 a1 k, LeO (feedback_Echo.f k a0 a1) (feedback_Echo.f (k + 1) a0 a1) := by
  intro a0 a1 k
  obtain ⟨ih0, ih1, ih2⟩ := feedback_Echo.mono_l k
  unfold feedback_Echo.f
  repeat' first
      | (with_reducible exact ih0 _ _ _ _ _)
      | (with_reducible exact ih1 _ _ _ _ _)
      | (with_reducible exact ih2 _ _ _ _ _ _ _ _ _ _ _)
      | (with_reducible exact feedback_taps.mono _ _)
      | (with_reducible exact LeO.refl _)
      | (with_reducible exact LeO.none _)
      | (with_reducible refine LeO.ite ?_ ?_)
      | (with_reducible refine LeO.bind ?_ (fun _ => ?_))
      | exact ih0 _ _ _ _ _
      | exact ih1 _ _ _ _ _
      | exact ih2 _ _ _ _ _ _ _ _ _ _ _
      | exact feedback_taps.mono _ _
      | exact LeO.none _
      | refine LeO.ite ?_ ?_
      | refine LeO.bind ?_ (fun _ => ?_)

/-! ### feedback_turned: function 138 -/
def feedback_turned.l0 : Nat → (Nat × Nat) → Int → Int → Option ((Nat × Nat))
  | 0, _, _, _ => none
  | k + 1, x0, x5, x6 => if x6 < x5 then (feedback_turned.l0 k (x0.2, Op.negFloat .f64 x0.1) x5 (wrap64 (x6 + 1))) else (some x0)
def feedback_turned.f (k : Nat) (a0 : (Nat × Nat)) (a1 : Int) : Option ((Nat × Nat)) := feedback_turned.l0 k a0 a1 0
theorem feedback_turned.mono_l : ∀ k, (∀ y0 y1 y2, LeO (feedback_turned.l0 k y0 y1 y2) (feedback_turned.l0 (k + 1) y0 y1 y2))
  | 0 => fun _ _ _ r h => by simp [feedback_turned.l0] at h
  | k + 1 => by
    have ih0 := feedback_turned.mono_l k
    · intro y0 y1 y2
      unfold feedback_turned.l0
      repeat' first
      | (with_reducible exact ih0 _ _ _)
      | (with_reducible exact LeO.refl _)
      | (with_reducible exact LeO.none _)
      | (with_reducible refine LeO.ite ?_ ?_)
      | (with_reducible refine LeO.bind ?_ (fun _ => ?_))
      | exact ih0 _ _ _
      | exact LeO.none _
      | refine LeO.ite ?_ ?_
      | refine LeO.bind ?_ (fun _ => ?_)
theorem feedback_turned.mono : ∀ a0 a1 k, LeO (feedback_turned.f k a0 a1) (feedback_turned.f (k + 1) a0 a1) := by
  intro a0 a1 k
  have ih0 := feedback_turned.mono_l k
  unfold feedback_turned.f
  repeat' first
      | (with_reducible exact ih0 _ _ _)
      | (with_reducible exact LeO.refl _)
      | (with_reducible exact LeO.none _)
      | (with_reducible refine LeO.ite ?_ ?_)
      | (with_reducible refine LeO.bind ?_ (fun _ => ?_))
      | exact ih0 _ _ _
      | exact LeO.none _
      | refine LeO.ite ?_ ?_
      | refine LeO.bind ?_ (fun _ => ?_)

/-! ### feedback_first: function 108 -/
def feedback_first.l0 : Nat → (Nat × Nat) → Int → Option (Nat × Int × Bool)
  | 0, _, _ => none
  | k + 1, x0, x7 => if x7 < 4 then ((feedback_turned.f k x0 x7).bind fun t220 => (if (FloatKind.f64.format.order t220.2 0 == some .eq) = true then (if (FloatKind.f64.format.order t220.1 4607182418800017408 == some .eq) = true then (some (t220.1, x7, true)) else (if (FloatKind.f64.format.order t220.1 4602678819172646912 == some .eq) = true then (some (t220.1, x7, true)) else (if (FloatKind.f64.format.order t220.1 4598175219545276416 == some .eq) = true then (some (t220.1, x7, true)) else (feedback_first.l0 k x0 (wrap64 (x7 + 1)))))) else (feedback_first.l0 k x0 (wrap64 (x7 + 1))))) else (some (0, 0, false))
def feedback_first.f (k : Nat) (a0 : (Nat × Nat)) : Option (Nat × Int × Bool) := feedback_first.l0 k a0 0
theorem feedback_first.mono_l : ∀ k, (∀ y0 y1, LeO (feedback_first.l0 k y0 y1) (feedback_first.l0 (k + 1) y0 y1))
  | 0 => fun _ _ r h => by simp [feedback_first.l0] at h
  | k + 1 => by
    have ih0 := feedback_first.mono_l k
    · intro y0 y1
      unfold feedback_first.l0
      repeat' first
      | (with_reducible exact ih0 _ _)
      | (with_reducible exact feedback_turned.mono _ _ _)
      | (with_reducible exact LeO.refl _)
      | (with_reducible exact LeO.none _)
      | (with_reducible refine LeO.ite ?_ ?_)
      | (with_reducible refine LeO.bind ?_ (fun _ => ?_))
      | exact ih0 _ _
      | exact feedback_turned.mono _ _ _
      | exact LeO.none _
      | refine LeO.ite ?_ ?_
      | refine LeO.bind ?_ (fun _ => ?_)
theorem feedback_first.mono : ∀ a0 k, LeO (feedback_first.f k a0) (feedback_first.f (k + 1) a0) := by
  intro a0 k
  have ih0 := feedback_first.mono_l k
  unfold feedback_first.f
  repeat' first
      | (with_reducible exact ih0 _ _)
      | (with_reducible exact feedback_turned.mono _ _ _)
      | (with_reducible exact LeO.refl _)
      | (with_reducible exact LeO.none _)
      | (with_reducible refine LeO.ite ?_ ?_)
      | (with_reducible refine LeO.bind ?_ (fun _ => ?_))
      | exact ih0 _ _
      | exact feedback_turned.mono _ _ _
      | exact LeO.none _
      | refine LeO.ite ?_ ?_
      | refine LeO.bind ?_ (fun _ => ?_)

/-! ### feedback_Check: function 27 -/
def feedback_Check.f (k : Nat) (l0 : List (Nat × Nat)) : Option (Int) := (feedback_taps.f k l0).bind fun t221 => (if t221 = true then (if 0 < (l0.length : Int) then ((feedback_first.f k (rdOf (0, 0) l0 0)).bind fun bt223 => (if bt223.2.2 = true then (some 0) else (some 110))) else (none)) else (some 8))
theorem feedback_Check.mono : ∀ a0 k, LeO (feedback_Check.f k a0) (feedback_Check.f (k + 1) a0) := by
  intro a0 k
  unfold feedback_Check.f
  repeat' first
      | (with_reducible exact feedback_first.mono _ _)
      | (with_reducible exact feedback_taps.mono _ _)
      | (with_reducible exact LeO.refl _)
      | (with_reducible exact LeO.none _)
      | (with_reducible refine LeO.ite ?_ ?_)
      | (with_reducible refine LeO.bind ?_ (fun _ => ?_))
      | exact feedback_first.mono _ _
      | exact feedback_taps.mono _ _
      | exact LeO.none _
      | refine LeO.ite ?_ ?_
      | refine LeO.bind ?_ (fun _ => ?_)

/-! ### foghornref11_Turn: function 94 -/
def foghornref11_Turn.l0 : Nat → (Nat × Nat) → Int → Int → Option ((Nat × Nat))
  | 0, _, _, _ => none
  | k + 1, x0, x1, x5 => if x5 < x1 then (foghornref11_Turn.l0 k (Op.negFloat .f64 x0.2, x0.1) x1 (wrap64 (x5 + 1))) else (some x0)
def foghornref11_Turn.f (k : Nat) (a0 : (Nat × Nat)) (a1 : Int) : Option ((Nat × Nat)) := foghornref11_Turn.l0 k a0 a1 0
theorem foghornref11_Turn.mono_l : ∀ k, (∀ y0 y1 y2, LeO (foghornref11_Turn.l0 k y0 y1 y2) (foghornref11_Turn.l0 (k + 1) y0 y1 y2))
  | 0 => fun _ _ _ r h => by simp [foghornref11_Turn.l0] at h
  | k + 1 => by
    have ih0 := foghornref11_Turn.mono_l k
    · intro y0 y1 y2
      unfold foghornref11_Turn.l0
      repeat' first
      | (with_reducible exact ih0 _ _ _)
      | (with_reducible exact LeO.refl _)
      | (with_reducible exact LeO.none _)
      | (with_reducible refine LeO.ite ?_ ?_)
      | (with_reducible refine LeO.bind ?_ (fun _ => ?_))
      | exact ih0 _ _ _
      | exact LeO.none _
      | refine LeO.ite ?_ ?_
      | refine LeO.bind ?_ (fun _ => ?_)
theorem foghornref11_Turn.mono : ∀ a0 a1 k, LeO (foghornref11_Turn.f k a0 a1) (foghornref11_Turn.f (k + 1) a0 a1) := by
  intro a0 a1 k
  have ih0 := foghornref11_Turn.mono_l k
  unfold foghornref11_Turn.f
  repeat' first
      | (with_reducible exact ih0 _ _ _)
      | (with_reducible exact LeO.refl _)
      | (with_reducible exact LeO.none _)
      | (with_reducible refine LeO.ite ?_ ?_)
      | (with_reducible refine LeO.bind ?_ (fun _ => ?_))
      | exact ih0 _ _ _
      | exact LeO.none _
      | refine LeO.ite ?_ ?_
      | refine LeO.bind ?_ (fun _ => ?_)

/-! ### foghornref11_First: function 99 -/
mutual
def foghornref11_First.l0 : Nat → (Nat × Nat) → List Nat → Int → Int → Option (Nat × Int)
  | 0, _, _, _, _ => none
  | k + 1, x0, x7, x8, x9 => if x9 < x8 then (if 0 ≤ x9 then (if x9 < (x7.length : Int) then (foghornref11_First.l1 k x0 (rdOf 0 x7 x9) 0 x7 x8 x9) else (none)) else (none)) else (some (0, 0))
def foghornref11_First.l1 : Nat → (Nat × Nat) → Nat → Int → List Nat → Int → Int → Option (Nat × Int)
  | 0, _, _, _, _, _, _ => none
  | k + 1, x0, x5, x6, x7, x8, x9 => if x6 < 4 then ((foghornref11_Turn.f k (x5, 0) x6).bind fun t230 => (if ((FloatKind.f64.format.order t230.1 x0.1 == some .eq) && (FloatKind.f64.format.order t230.2 x0.2 == some .eq)) = true then (some (x5, x6)) else (foghornref11_First.l1 k x0 x5 (wrap64 (x6 + 1)) x7 x8 x9))) else (foghornref11_First.l0 k x0 x7 x8 (wrap64 (x9 + 1)))
end
def foghornref11_First.f (k : Nat) (a0 : (Nat × Nat)) : Option (Nat × Int) := (some (([4607182418800017408, 4602678819172646912, 4598175219545276416] : List Nat) : List Nat)).bind fun y226 => (foghornref11_First.l0 k a0 y226 (y226.length : Int) 0)
theorem foghornref11_First.mono_l : ∀ k, (∀ y0 y1 y2 y3, LeO (foghornref11_First.l0 k y0 y1 y2 y3) (foghornref11_First.l0 (k + 1) y0 y1 y2 y3)) ∧ (∀ y0 y1 y2 y3 y4 y5, LeO (foghornref11_First.l1 k y0 y1 y2 y3 y4 y5) (foghornref11_First.l1 (k + 1) y0 y1 y2 y3 y4 y5))
  | 0 => ⟨fun _ _ _ _ r h => by simp [foghornref11_First.l0] at h, fun _ _ _ _ _ _ r h => by simp [foghornref11_First.l1] at h⟩
  | k + 1 => by
    obtain ⟨ih0, ih1⟩ := foghornref11_First.mono_l k
    refine ⟨?_, ?_⟩
    · intro y0 y1 y2 y3
      unfold foghornref11_First.l0
      repeat' first
      | (with_reducible exact ih0 _ _ _ _)
      | (with_reducible exact ih1 _ _ _ _ _ _)
      | (with_reducible exact foghornref11_Turn.mono _ _ _)
      | (with_reducible exact LeO.refl _)
      | (with_reducible exact LeO.none _)
      | (with_reducible refine LeO.ite ?_ ?_)
      | (with_reducible refine LeO.bind ?_ (fun _ => ?_))
      | exact ih0 _ _ _ _
      | exact ih1 _ _ _ _ _ _
      | exact foghornref11_Turn.mono _ _ _
      | exact LeO.none _
      | refine LeO.ite ?_ ?_
      | refine LeO.bind ?_ (fun _ => ?_)
    · intro y0 y1 y2 y3 y4 y5
      unfold foghornref11_First.l1
      repeat' first
      | (with_reducible exact ih0 _ _ _ _)
      | (with_reducible exact ih1 _ _ _ _ _ _)
      | (with_reducible exact foghornref11_Turn.mono _ _ _)
      | (with_reducible exact LeO.refl _)
      | (with_reducible exact LeO.none _)
      | (with_reducible refine LeO.ite ?_ ?_)
      | (with_reducible refine LeO.bind ?_ (fun _ => ?_))
      | exact ih0 _ _ _ _
      | exact ih1 _ _ _ _ _ _
      | exact foghornref11_Turn.mono _ _ _
      | exact LeO.none _
      | refine LeO.ite ?_ ?_
      | refine LeO.bind ?_ (fun _ => ?_)
theorem foghornref11_First.mono : ∀ a0 k, LeO (foghornref11_First.f k a0) (foghornref11_First.f (k + 1) a0) := by
  intro a0 k
  obtain ⟨ih0, ih1⟩ := foghornref11_First.mono_l k
  unfold foghornref11_First.f
  repeat' first
      | (with_reducible exact ih0 _ _ _ _)
      | (with_reducible exact ih1 _ _ _ _ _ _)
      | (with_reducible exact foghornref11_Turn.mono _ _ _)
      | (with_reducible exact LeO.refl _)
      | (with_reducible exact LeO.none _)
      | (with_reducible refine LeO.ite ?_ ?_)
      | (with_reducible refine LeO.bind ?_ (fun _ => ?_))
      | exact ih0 _ _ _ _
      | exact ih1 _ _ _ _ _ _
      | exact foghornref11_Turn.mono _ _ _
      | exact LeO.none _
      | refine LeO.ite ?_ ?_
      | refine LeO.bind ?_ (fun _ => ?_)

/-! ### foghornref11_Check: function 28 -/
def foghornref11_Check.f (k : Nat) (l0 : List (Nat × Nat)) : Option (Int) := (foghornref11_Taps.f k l0).bind fun t231 => (if t231 = true then (if 0 < (l0.length : Int) then ((foghornref11_First.f k (rdOf (0, 0) l0 0)).bind fun bt233 => (if (FloatKind.f64.format.order bt233.1 0 == some .eq) = true then (some 110) else (some 0))) else (none)) else (some 8))
theorem foghornref11_Check.mono : ∀ a0 k, LeO (foghornref11_Check.f k a0) (foghornref11_Check.f (k + 1) a0) := by
  intro a0 k
  unfold foghornref11_Check.f
  repeat' first
      | (with_reducible exact foghornref11_First.mono _ _)
      | (with_reducible exact foghornref11_Taps.mono _ _)
      | (with_reducible exact LeO.refl _)
      | (with_reducible exact LeO.none _)
      | (with_reducible refine LeO.ite ?_ ?_)
      | (with_reducible refine LeO.bind ?_ (fun _ => ?_))
      | exact foghornref11_First.mono _ _
      | exact foghornref11_Taps.mono _ _
      | exact LeO.none _
      | refine LeO.ite ?_ ?_
      | refine LeO.bind ?_ (fun _ => ?_)

/-! ### foghornref11_Same: function 30 -/
def foghornref11_Same.l0 : Nat → List (Nat × Nat) → List (Nat × Nat) → Int → Option (Bool)
  | 0, _, _, _ => none
  | k + 1, x0, x1, x5 => if x5 < (x0.length : Int) then (if 0 ≤ x5 then (if x5 < (x1.length : Int) then (if (!((FloatKind.f64.format.order ((rdOf (0, 0) x0 x5).1) ((rdOf (0, 0) x1 x5).1) == some .eq) && (FloatKind.f64.format.order ((rdOf (0, 0) x0 x5).2) ((rdOf (0, 0) x1 x5).2) == some .eq))) = true then (some false) else (foghornref11_Same.l0 k x0 x1 (wrap64 (x5 + 1)))) else (none)) else (none)) else (some true)
def foghornref11_Same.f (k : Nat) (l0 : List (Nat × Nat)) (l1 : List (Nat × Nat)) : Option (Bool) := if (l0.length : Int) = (l1.length : Int) then (foghornref11_Same.l0 k l0 l1 0) else (some false)
theorem foghornref11_Same.mono_l : ∀ k, (∀ y0 y1 y2, LeO (foghornref11_Same.l0 k y0 y1 y2) (foghornref11_Same.l0 (k + 1) y0 y1 y2))
  | 0 => fun _ _ _ r h => by simp [foghornref11_Same.l0] at h
  | k + 1 => by
    have ih0 := foghornref11_Same.mono_l k
    · intro y0 y1 y2
      unfold foghornref11_Same.l0
      repeat' first
      | (with_reducible exact ih0 _ _ _)
      | (with_reducible exact LeO.refl _)
      | (with_reducible exact LeO.none _)
      | (with_reducible refine LeO.ite ?_ ?_)
      | (with_reducible refine LeO.bind ?_ (fun _ => ?_))
      | exact ih0 _ _ _
      | exact LeO.none _
      | refine LeO.ite ?_ ?_
      | refine LeO.bind ?_ (fun _ => ?_)
theorem foghornref11_Same.mono : ∀ a0 a1 k, LeO (foghornref11_Same.f k a0 a1) (foghornref11_Same.f (k + 1) a0 a1) := by
  intro a0 a1 k
  have ih0 := foghornref11_Same.mono_l k
  unfold foghornref11_Same.f
  repeat' first
      | (with_reducible exact ih0 _ _ _)
      | (with_reducible exact LeO.refl _)
      | (with_reducible exact LeO.none _)
      | (with_reducible refine LeO.ite ?_ ?_)
      | (with_reducible refine LeO.bind ?_ (fun _ => ?_))
      | exact ih0 _ _ _
      | exact LeO.none _
      | refine LeO.ite ?_ ?_
      | refine LeO.bind ?_ (fun _ => ?_)

/-! ### foghornlaw11_fresh: function 29 -/
mutual
def foghornlaw11_fresh.j0 : Nat → List (Nat × Nat) → List (Nat × Nat) → List (Nat × Nat) → Bool → Option (Bool)
  | 0, _, _, _, _ => none
  | k + 1, x0, x1, x2, x18 => if x18 = true then (some false) else (foghornlaw11_fresh.l0 k x0 x1 x2 0)
def foghornlaw11_fresh.l0 : Nat → List (Nat × Nat) → List (Nat × Nat) → List (Nat × Nat) → Int → Option (Bool)
  | 0, _, _, _, _ => none
  | k + 1, x0, x1, x2, x7 => if x7 < (x0.length : Int) then (if 0 ≤ x7 then (foghornlaw11_fresh.l0 k (x0.set (x7 : Int).toNat (4648093047446306816, 0)) x1 x2 (wrap64 (x7 + 1))) else (none)) else (foghornlaw11_fresh.l1 k x0 x1 x2 0)
def foghornlaw11_fresh.l1 : Nat → List (Nat × Nat) → List (Nat × Nat) → List (Nat × Nat) → Int → Option (Bool)
  | 0, _, _, _, _ => none
  | k + 1, x0, x1, x2, x8 => if x8 < 20 then (if x0.length < 8796093022208 then (foghornlaw11_fresh.l1 k (x0 ++ [(4649069413771771904, 0)]) x1 x2 (wrap64 (x8 + 1))) else (none)) else ((foghornref11_Same.f k x1 x2).bind fun t243 => (if t243 = true then (some ((x0.length : Int) == (wrap64 ((x2.length : Int) + 20)))) else (some false)))
end
def foghornlaw11_fresh.f (k : Nat) (l0 : List (Nat × Nat)) (l1 : List (Nat × Nat)) (l2 : List (Nat × Nat)) : Option (Bool) := (foghornref11_Same.f k l0 l2).bind fun t237 => (if t237 = true then ((foghornref11_Same.f k l1 l2).bind fun t238 => (foghornlaw11_fresh.j0 k l0 l1 l2 (!t238))) else (foghornlaw11_fresh.j0 k l0 l1 l2 true))
theorem foghornlaw11_fresh.mono_l : ∀ k, (∀ y0 y1 y2 y3, LeO (foghornlaw11_fresh.j0 k y0 y1 y2 y3) (foghornlaw11_fresh.j0 (k + 1) y0 y1 y2 y3)) ∧ (∀ y0 y1 y2 y3, LeO (foghornlaw11_fresh.l0 k y0 y1 y2 y3) (foghornlaw11_fresh.l0 (k + 1) y0 y1 y2 y3)) ∧ (∀ y0 y1 y2 y3, LeO (foghornlaw11_fresh.l1 k y0 y1 y2 y3) (foghornlaw11_fresh.l1 (k + 1) y0 y1 y2 y3))
  | 0 => ⟨fun _ _ _ _ r h => by simp [foghornlaw11_fresh.j0] at h, fun _ _ _ _ r h => by simp [foghornlaw11_fresh.l0] at h, fun _ _ _ _ r h => by simp [foghornlaw11_fresh.l1] at h⟩
  | k + 1 => by
    obtain ⟨ih0, ih1, ih2⟩ := foghornlaw11_fresh.mono_l k
    refine ⟨?_, ?_, ?_⟩
    · intro y0 y1 y2 y3
      unfold foghornlaw11_fresh.j0
      repeat' first
      | (with_reducible exact ih0 _ _ _ _)
      | (with_reducible exact ih1 _ _ _ _)
      | (with_reducible exact ih2 _ _ _ _)
      | (with_reducible exact foghornref11_Same.mono _ _ _)
      | (with_reducible exact LeO.refl _)
      | (with_reducible exact LeO.none _)
      | (with_reducible refine LeO.ite ?_ ?_)
      | (with_reducible refine LeO.bind ?_ (fun _ => ?_))
      | exact ih0 _ _ _ _
      | exact ih1 _ _ _ _
      | exact ih2 _ _ _ _
      | exact foghornref11_Same.mono _ _ _
      | exact LeO.none _
      | refine LeO.ite ?_ ?_
      | refine LeO.bind ?_ (fun _ => ?_)
    · intro y0 y1 y2 y3
      unfold foghornlaw11_fresh.l0
      repeat' first
      | (with_reducible exact ih0 _ _ _ _)
      | (with_reducible exact ih1 _ _ _ _)
      | (with_reducible exact ih2 _ _ _ _)
      | (with_reducible exact foghornref11_Same.mono _ _ _)
      | (with_reducible exact LeO.refl _)
      | (with_reducible exact LeO.none _)
      | (with_reducible refine LeO.ite ?_ ?_)
      | (with_reducible refine LeO.bind ?_ (fun _ => ?_))
      | exact ih0 _ _ _ _
      | exact ih1 _ _ _ _
      | exact ih2 _ _ _ _
      | exact foghornref11_Same.mono _ _ _
      | exact LeO.none _
      | refine LeO.ite ?_ ?_
      | refine LeO.bind ?_ (fun _ => ?_)
    · intro y0 y1 y2 y3
      unfold foghornlaw11_fresh.l1
      repeat' first
      | (with_reducible exact ih0 _ _ _ _)
      | (with_reducible exact ih1 _ _ _ _)
      | (with_reducible exact ih2 _ _ _ _)
      | (with_reducible exact foghornref11_Same.mono _ _ _)
      | (with_reducible exact LeO.refl _)
      | (with_reducible exact LeO.none _)
      | (with_reducible refine LeO.ite ?_ ?_)
      | (with_reducible refine LeO.bind ?_ (fun _ => ?_))
      | exact ih0 _ _ _ _
      | exact ih1 _ _ _ _
      | exact ih2 _ _ _ _
      | exact foghornref11_Same.mono _ _ _
      | exact LeO.none _
      | refine LeO.ite ?_ ?_
      | refine LeO.bind ?_ (fun _ => ?_)
theorem foghornlaw11_fresh.mono : ∀ a0 a1 a2 k, LeO (foghornlaw11_fresh.f k a0 a1 a2) (foghornlaw11_fresh.f (k + 1) a0 a1 a2) := by
  intro a0 a1 a2 k
  obtain ⟨ih0, ih1, ih2⟩ := foghornlaw11_fresh.mono_l k
  unfold foghornlaw11_fresh.f
  repeat' first
      | (with_reducible exact ih0 _ _ _ _)
      | (with_reducible exact ih1 _ _ _ _)
      | (with_reducible exact ih2 _ _ _ _)
      | (with_reducible exact foghornref11_Same.mono _ _ _)
      | (with_reducible exact LeO.refl _)
      | (with_reducible exact LeO.none _)
      | (with_reducible refine LeO.ite ?_ ?_)
      | (with_reducible refine LeO.bind ?_ (fun _ => ?_))
      | exact ih0 _ _ _ _
      | exact ih1 _ _ _ _
      | exact ih2 _ _ _ _
      | exact foghornref11_Same.mono _ _ _
      | exact LeO.none _
      | refine LeO.ite ?_ ?_
      | refine LeO.bind ?_ (fun _ => ?_)

/-! ### foghornlaw11_FeedbackEchoes: function 3 -/
mutual
def foghornlaw11_FeedbackEchoes.j0 : Nat → List (Nat × Nat) → List (Nat × Nat) → Bool → Option (Bool)
  | 0, _, _, _ => none
  | k + 1, x5, x6, x88 => if x88 = true then (some false) else (foghornlaw11_FeedbackEchoes.l0 k x5 x6 0)
def foghornlaw11_FeedbackEchoes.l0 : Nat → List (Nat × Nat) → List (Nat × Nat) → Int → Option (Bool)
  | 0, _, _, _ => none
  | k + 1, x5, x6, x13 => if x13 < (x6.length : Int) then (if 0 ≤ x13 then (foghornlaw11_FeedbackEchoes.l0 k x5 (x6.set (x13 : Int).toNat ((rdOf (0, 0) x6 x13).2, (rdOf (0, 0) x6 x13).1)) (wrap64 (x13 + 1))) else (none)) else ((foghornref11_Echo.f k x5 x6).bind fun bt282 => ((feedback_Echo.f k x5 x6).bind fun bt286 => (if bt286.2 = bt282.2 then ((foghornref11_Same.f k bt286.1 bt282.1).bind fun t290 => (some t290)) else (some false))))
end
def foghornlaw11_FeedbackEchoes.f (k : Nat) (l0 : List (S174)) (l1 : List (S146)) : Option (Bool) := (foghornlaw11_taps.f k l0).bind fun t244 => ((foghornlaw11_numbers.f k l1).bind fun t247 => ((foghornref11_Echo.f k t244 t247).bind fun bt250 => ((feedback_Echo.f k t244 t247).bind fun bt254 => ((feedback_Echo.f k t244 t247).bind fun bt258 => ((feedback_Check.f k t244).bind fun t262 => ((foghornref11_Check.f k t244).bind fun t263 => (if t262 = t263 then (if bt254.2 = bt250.2 then (if bt258.2 = bt250.2 then ((foghornlaw11_fresh.f k bt254.1 bt258.1 bt250.1).bind fun t264 => (if t264 = true then (if (wrap64 ((l0.length : Int) + 1)) = (t244.length : Int) + 1 then ((some (t244 ++ [(4651892959631900672, 0)] : List (Nat × Nat))).bind fun y265 => (if 0 ≤ (l0.length : Int) then (if (l0.length : Int) < (y265.length : Int) then (if (!((FloatKind.f64.format.order ((rdOf (0, 0) y265 (l0.length : Int)).1) 4651892959631900672 == some .eq) && (FloatKind.f64.format.order ((rdOf (0, 0) y265 (l0.length : Int)).2) 0 == some .eq))) = true then (foghornlaw11_FeedbackEchoes.j0 k t244 t247 true) else (if (wrap64 ((l1.length : Int) + 1)) = (t247.length : Int) + 1 then ((some (t247 ++ [(4651892959631900672, 0)] : List (Nat × Nat))).bind fun y270 => (if 0 ≤ (l1.length : Int) then (if (l1.length : Int) < (y270.length : Int) then (if (!((FloatKind.f64.format.order ((rdOf (0, 0) y270 (l1.length : Int)).1) 4651892959631900672 == some .eq) && (FloatKind.f64.format.order ((rdOf (0, 0) y270 (l1.length : Int)).2) 0 == some .eq))) = true then (foghornlaw11_FeedbackEchoes.j0 k t244 t247 true) else ((foghornlaw11_numbers.f k l1).bind fun t275 => ((foghornref11_Same.f k t247 t275).bind fun t278 => (foghornlaw11_FeedbackEchoes.j0 k t244 t247 (!t278))))) else (none)) else (none))) else (none))) else (none)) else (none))) else (none)) else (foghornlaw11_FeedbackEchoes.j0 k t244 t247 true))) else (foghornlaw11_FeedbackEchoes.j0 k t244 t247 true)) else (foghornlaw11_FeedbackEchoes.j0 k t244 t247 true)) else (foghornlaw11_FeedbackEchoes.j0 k t244 t247 true))))))))
theorem foghornlaw11_FeedbackEchoes.mono_l : ∀ k, (∀ y0 y1 y2, LeO (foghornlaw11_FeedbackEchoes.j0 k y0 y1 y2) (foghornlaw11_FeedbackEchoes.j0 (k + 1) y0 y1 y2)) ∧ (∀ y0 y1 y2, LeO (foghornlaw11_FeedbackEchoes.l0 k y0 y1 y2) (foghornlaw11_FeedbackEchoes.l0 (k + 1) y0 y1 y2))
  | 0 => ⟨fun _ _ _ r h => by simp [foghornlaw11_FeedbackEchoes.j0] at h, fun _ _ _ r h => by simp [foghornlaw11_FeedbackEchoes.l0] at h⟩
  | k + 1 => by
    obtain ⟨ih0, ih1⟩ := foghornlaw11_FeedbackEchoes.mono_l k
    refine ⟨?_, ?_⟩
    · intro y0 y1 y2
      unfold foghornlaw11_FeedbackEchoes.j0
      repeat' first
      | (with_reducible exact ih0 _ _ _)
      | (with_reducible exact ih1 _ _ _)
      | (with_reducible exact feedback_Check.mono _ _)
      | (with_reducible exact feedback_Echo.mono _ _ _)
      | (with_reducible exact foghornlaw11_fresh.mono _ _ _ _)
      | (with_reducible exact foghornlaw11_numbers.mono _ _)
      | (with_reducible exact foghornlaw11_taps.mono _ _)
      | (with_reducible exact foghornref11_Check.mono _ _)
      | (with_reducible exact foghornref11_Echo.mono _ _ _)
      | (with_reducible exact foghornref11_Same.mono _ _ _)
      | (with_reducible exact LeO.refl _)
      | (with_reducible exact LeO.none _)
      | (with_reducible refine LeO.ite ?_ ?_)
      | (with_reducible refine LeO.bind ?_ (fun _ => ?_))
      | exact ih0 _ _ _
      | exact ih1 _ _ _
      | exact feedback_Check.mono _ _
      | exact feedback_Echo.mono _ _ _
      | exact foghornlaw11_fresh.mono _ _ _ _
      | exact foghornlaw11_numbers.mono _ _
      | exact foghornlaw11_taps.mono _ _
      | exact foghornref11_Check.mono _ _
      | exact foghornref11_Echo.mono _ _ _
      | exact foghornref11_Same.mono _ _ _
      | exact LeO.none _
      | refine LeO.ite ?_ ?_
      | refine LeO.bind ?_ (fun _ => ?_)
    · intro y0 y1 y2
      unfold foghornlaw11_FeedbackEchoes.l0
      repeat' first
      | (with_reducible exact ih0 _ _ _)
      | (with_reducible exact ih1 _ _ _)
      | (with_reducible exact feedback_Check.mono _ _)
      | (with_reducible exact feedback_Echo.mono _ _ _)
      | (with_reducible exact foghornlaw11_fresh.mono _ _ _ _)
      | (with_reducible exact foghornlaw11_numbers.mono _ _)
      | (with_reducible exact foghornlaw11_taps.mono _ _)
      | (with_reducible exact foghornref11_Check.mono _ _)
      | (with_reducible exact foghornref11_Echo.mono _ _ _)
      | (with_reducible exact foghornref11_Same.mono _ _ _)
      | (with_reducible exact LeO.refl _)
      | (with_reducible exact LeO.none _)
      | (with_reducible refine LeO.ite ?_ ?_)
      | (with_reducible refine LeO.bind ?_ (fun _ => ?_))
      | exact ih0 _ _ _
      | exact ih1 _ _ _
      | exact feedback_Check.mono _ _
      | exact feedback_Echo.mono _ _ _
      | exact foghornlaw11_fresh.mono _ _ _ _
      | exact foghornlaw11_numbers.mono _ _
      | exact foghornlaw11_taps.mono _ _
      | exact foghornref11_Check.mono _ _
      | exact foghornref11_Echo.mono _ _ _
      | exact foghornref11_Same.mono _ _ _
      | exact LeO.none _
      | refine LeO.ite ?_ ?_
      | refine LeO.bind ?_ (fun _ => ?_)
theorem foghornlaw11_FeedbackEchoes.mono : ∀ a0 a1 k, LeO (foghornlaw11_FeedbackEchoes.f k a0 a1) (foghornlaw11_FeedbackEchoes.f (k + 1) a0 a1) := by
  intro a0 a1 k
  obtain ⟨ih0, ih1⟩ := foghornlaw11_FeedbackEchoes.mono_l k
  unfold foghornlaw11_FeedbackEchoes.f
  repeat' first
      | (with_reducible exact ih0 _ _ _)
      | (with_reducible exact ih1 _ _ _)
      | (with_reducible exact feedback_Check.mono _ _)
      | (with_reducible exact feedback_Echo.mono _ _ _)
      | (with_reducible exact foghornlaw11_fresh.mono _ _ _ _)
      | (with_reducible exact foghornlaw11_numbers.mono _ _)
      | (with_reducible exact foghornlaw11_taps.mono _ _)
      | (with_reducible exact foghornref11_Check.mono _ _)
      | (with_reducible exact foghornref11_Echo.mono _ _ _)
      | (with_reducible exact foghornref11_Same.mono _ _ _)
      | (with_reducible exact LeO.refl _)
      | (with_reducible exact LeO.none _)
      | (with_reducible refine LeO.ite ?_ ?_)
      | (with_reducible refine LeO.bind ?_ (fun _ => ?_))
      | exact ih0 _ _ _
      | exact ih1 _ _ _
      | exact feedback_Check.mono _ _
      | exact feedback_Echo.mono _ _ _
      | exact foghornlaw11_fresh.mono _ _ _ _
      | exact foghornlaw11_numbers.mono _ _
      | exact foghornlaw11_taps.mono _ _
      | exact foghornref11_Check.mono _ _
      | exact foghornref11_Echo.mono _ _ _
      | exact foghornref11_Same.mono _ _ _
      | exact LeO.none _
      | refine LeO.ite ?_ ?_
      | refine LeO.bind ?_ (fun _ => ?_)
def foghornlaw11_FeedbackEchoes.T11 : Bool × List (List Nat × List Nat) := (true, [([], []), ([], []), ([], []), ([], []), ([2, 3], [2, 3]), ([4], [4]), ([5], [5]), ([], []), ([], []), ([7, 8], [7, 8]), ([9], [9]), ([10], [10]), ([6, 11], [6, 11]), ([0, 1, 0, 1, 2, 3, 4, 5, 6, 7, 8, 9, 10, 11, 12], [0, 1]), ([13, 12, 0, 1, 2, 3, 4, 5, 6, 7, 8, 9, 10, 11, 12], [12, 13])])
def foghornlaw11_FeedbackEchoes.B11 : List Nat := [0, 0, 0, 0, 12, 28, 60, 0, 0, 384, 896, 1920, 4092, 8191, 16383]
theorem foghornlaw11_FeedbackEchoes.tab11 : rtab .any (opsOf Try.f3 11) = foghornlaw11_FeedbackEchoes.T11 := by kernel_rfl
theorem foghornlaw11_FeedbackEchoes.bits11 : waitsOk foghornlaw11_FeedbackEchoes.T11.2 foghornlaw11_FeedbackEchoes.B11 = true := by kernel_rfl
/-- THE ONE PURE STATEMENT of foghornlaw11_FeedbackEchoes: ours. -/
def foghornlaw11_FeedbackEchoes.Pure : Prop := ∀ (l0 : List (S174)) (l1 : List (S146)), (l0.length * 24 ≤ 140737488351232 ∧ ∀ x ∈ l0, (fun y_ : S174 => ((Lit.int .i64 y_.f0).wf = true) ∧ ((Lit.int .i64 y_.f1).wf = true) ∧ (True)) x) → (l1.length * 12 ≤ 140737488351232 ∧ ∀ x ∈ l1, (fun y_ : S146 => ((Lit.int .i32 y_.f0).wf = true) ∧ ((Lit.int .i32 y_.f1).wf = true) ∧ (True)) x) → ∃ k, foghornlaw11_FeedbackEchoes.f k l0 l1 = some true

/-! ### foghornlaw30_lent: function 31 -/
def foghornlaw30_lent.f (l0 : List Bool) : Option (List Bool) := (some (([] : List Bool) : List Bool)).bind fun y291 => (if y291.length + l0.length < 140737488355328 then ((some (y291 ++ l0 : List Bool)).bind fun y294 => (if y294.length < 140737488355328 then ((some (y294 ++ [true] : List Bool)).bind fun y297 => (if 0 ≤ (l0.length : Int) then (if (l0.length : Int) ≤ (y297.length : Int) then (some (y297.take ((l0.length : Int) : Int).toNat)) else (none)) else (none))) else (none))) else (none))

/-! ### meter_rows: function 109 -/
def meter_rows.f (l0 : List Bool) (l1 : List Bool) : Option (Bool) := if (l0.length : Int) ≤ 32768 then (some ((l0.length : Int) == (l1.length : Int))) else (some false)

/-! ### meter_Errors: function 32 -/
def meter_Errors.l0 : Nat → List Bool → List Bool → Int → Int → Int → Int → Option (Int × Int × Int)
  | 0, _, _, _, _, _, _ => none
  | k + 1, x0, x1, x4, x5, x13, x14 => if x14 < x13 then (if 0 ≤ x14 then (if x14 < (x0.length : Int) then (if x14 < (x1.length : Int) then (if ((rdOf false x0 x14) != (rdOf false x1 x14)) = true then (if x4 = 0 then (meter_Errors.l0 k x0 x1 (wrap64 (x4 + 1)) x14 x13 (wrap64 (x14 + 1))) else (meter_Errors.l0 k x0 x1 (wrap64 (x4 + 1)) x5 x13 (wrap64 (x14 + 1)))) else (meter_Errors.l0 k x0 x1 x4 x5 x13 (wrap64 (x14 + 1)))) else (none)) else (none)) else (none)) else (some (x4, x5, 0))
def meter_Errors.f (k : Nat) (l0 : List Bool) (l1 : List Bool) : Option (Int × Int × Int) := (meter_rows.f l0 l1).bind fun t303 => (if t303 = true then (meter_Errors.l0 k l0 l1 0 0 (l0.length : Int) 0) else (some (0, 0, 1)))
theorem meter_Errors.mono_l : ∀ k, (∀ y0 y1 y2 y3 y4 y5, LeO (meter_Errors.l0 k y0 y1 y2 y3 y4 y5) (meter_Errors.l0 (k + 1) y0 y1 y2 y3 y4 y5))
  | 0 => fun _ _ _ _ _ _ r h => by simp [meter_Errors.l0] at h
  | k + 1 => by
    have ih0 := meter_Errors.mono_l k
    · intro y0 y1 y2 y3 y4 y5
      unfold meter_Errors.l0
      repeat' first
      | (with_reducible exact ih0 _ _ _ _ _ _)
      | (with_reducible exact LeO.refl _)
      | (with_reducible exact LeO.none _)
      | (with_reducible refine LeO.ite ?_ ?_)
      | (with_reducible refine LeO.bind ?_ (fun _ => ?_))
      | exact ih0 _ _ _ _ _ _
      | exact LeO.none _
      | refine LeO.ite ?_ ?_
      | refine LeO.bind ?_ (fun _ => ?_)
theorem meter_Errors.mono : ∀ a0 a1 k, LeO (meter_Errors.f k a0 a1) (meter_Errors.f (k + 1) a0 a1) := by
  intro a0 a1 k
  have ih0 := meter_Errors.mono_l k
  unfold meter_Errors.f
  repeat' first
      | (with_reducible exact ih0 _ _ _ _ _ _)
      | (with_reducible exact LeO.refl _)
      | (with_reducible exact LeO.none _)
      | (with_reducible refine LeO.ite ?_ ?_)
      | (with_reducible refine LeO.bind ?_ (fun _ => ?_))
      | exact ih0 _ _ _ _ _ _
      | exact LeO.none _
      | refine LeO.ite ?_ ?_
      | refine LeO.bind ?_ (fun _ => ?_)

/-! ### foghornref30_Errors: function 33 -/
mutual
def foghornref30_Errors.j0 : Nat → List Bool → List Bool → Bool → Option (Int × Int × Int)
  | 0, _, _, _ => none
  | k + 1, x0, x1, x19 => if x19 = true then (some (0, 0, 1)) else (foghornref30_Errors.l0 k x0 x1 0 0 (wrap64 ((x0.length : Int) - 1)))
def foghornref30_Errors.l0 : Nat → List Bool → List Bool → Int → Int → Int → Option (Int × Int × Int)
  | 0, _, _, _, _, _ => none
  | k + 1, x0, x1, x7, x8, x9 => if x9 ≥ 0 then (if 0 ≤ x9 then (if x9 < (x0.length : Int) then (if x9 < (x1.length : Int) then (if ((rdOf false x0 x9) != (rdOf false x1 x9)) = true then (foghornref30_Errors.l0 k x0 x1 (wrap64 (x7 + 1)) x9 (wrap64 (x9 - 1))) else (foghornref30_Errors.l0 k x0 x1 x7 x8 (wrap64 (x9 - 1)))) else (none)) else (none)) else (none)) else (some (x7, x8, 0))
end
def foghornref30_Errors.f (k : Nat) (l0 : List Bool) (l1 : List Bool) : Option (Int × Int × Int) := if (l0.length : Int) > 32768 then (foghornref30_Errors.j0 k l0 l1 true) else (foghornref30_Errors.j0 k l0 l1 ((l1.length : Int) != (l0.length : Int)))
theorem foghornref30_Errors.mono_l : ∀ k, (∀ y0 y1 y2, LeO (foghornref30_Errors.j0 k y0 y1 y2) (foghornref30_Errors.j0 (k + 1) y0 y1 y2)) ∧ (∀ y0 y1 y2 y3 y4, LeO (foghornref30_Errors.l0 k y0 y1 y2 y3 y4) (foghornref30_Errors.l0 (k + 1) y0 y1 y2 y3 y4))
  | 0 => ⟨fun _ _ _ r h => by simp [foghornref30_Errors.j0] at h, fun _ _ _ _ _ r h => by simp [foghornref30_Errors.l0] at h⟩
  | k + 1 => by
    obtain ⟨ih0, ih1⟩ := foghornref30_Errors.mono_l k
    refine ⟨?_, ?_⟩
    · intro y0 y1 y2
      unfold foghornref30_Errors.j0
      repeat' first
      | (with_reducible exact ih0 _ _ _)
      | (with_reducible exact ih1 _ _ _ _ _)
      | (with_reducible exact LeO.refl _)
      | (with_reducible exact LeO.none _)
      | (with_reducible refine LeO.ite ?_ ?_)
      | (with_reducible refine LeO.bind ?_ (fun _ => ?_))
      | exact ih0 _ _ _
      | exact ih1 _ _ _ _ _
      | exact LeO.none _
      | refine LeO.ite ?_ ?_
      | refine LeO.bind ?_ (fun _ => ?_)
    · intro y0 y1 y2 y3 y4
      unfold foghornref30_Errors.l0
      repeat' first
      | (with_reducible exact ih0 _ _ _)
      | (with_reducible exact ih1 _ _ _ _ _)
      | (with_reducible exact LeO.refl _)
      | (with_reducible exact LeO.none _)
      | (with_reducible refine LeO.ite ?_ ?_)
      | (with_reducible refine LeO.bind ?_ (fun _ => ?_))
      | exact ih0 _ _ _
      | exact ih1 _ _ _ _ _
      | exact LeO.none _
      | refine LeO.ite ?_ ?_
      | refine LeO.bind ?_ (fun _ => ?_)
theorem foghornref30_Errors.mono : ∀ a0 a1 k, LeO (foghornref30_Errors.f k a0 a1) (foghornref30_Errors.f (k + 1) a0 a1) := by
  intro a0 a1 k
  obtain ⟨ih0, ih1⟩ := foghornref30_Errors.mono_l k
  unfold foghornref30_Errors.f
  repeat' first
      | (with_reducible exact ih0 _ _ _)
      | (with_reducible exact ih1 _ _ _ _ _)
      | (with_reducible exact LeO.refl _)
      | (with_reducible exact LeO.none _)
      | (with_reducible refine LeO.ite ?_ ?_)
      | (with_reducible refine LeO.bind ?_ (fun _ => ?_))
      | exact ih0 _ _ _
      | exact ih1 _ _ _ _ _
      | exact LeO.none _
      | refine LeO.ite ?_ ?_
      | refine LeO.bind ?_ (fun _ => ?_)

end Go.Proofs.Ythfcafllcgjepaa.Q
