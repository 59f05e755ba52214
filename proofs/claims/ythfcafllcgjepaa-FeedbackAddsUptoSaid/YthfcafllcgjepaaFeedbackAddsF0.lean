-- Printed by myprint.py (ours) over the kit's printer, out of the translation.
import Derived.Test.YthfcafllcgjepaaFeedbackAddsK0
namespace Go.Proofs.Ythfcafllcgjepaa.Q
open Go.RowKit Go.Proofs.YthfcafllcgjepaaW.PrintWords Go.Proofs.YthfcafllcgjepaaW.PrintLast Go.Proofs.YthfcafllcgjepaaW.PrintMore
attribute [local go_sem] ArrW.ptrOf_slice unary_neg_float unary_neg_complex run_store_float run_store_complex max2_int min2_int max_two min_two max_three min_three max_four min_four   -- for this text's walks alone
set_option linter.unusedVariables false
set_option linter.unusedSimpArgs false

/-! ### bits_Ungray: function 169 -/
mutual
def bits_Ungray.j0 : Nat → Int → Bool → Option (Int × Int)
  | 0, _, _ => none
  | k + 1, x0, x10 => if x10 = true then (some (0, 1)) else (bits_Ungray.l0 k x0 1)
def bits_Ungray.l0 : Nat → Int → Int → Option (Int × Int)
  | 0, _, _ => none
  | k + 1, x0, x4 => if x4 < 16 then (if 0 ≤ x4 then (bits_Ungray.l0 k (Go.bits .xor .i64 x0 (shr .i64 x0 x4)) (wrap64 (x4 * 2))) else (none)) else (some (x0, 0))
end
def bits_Ungray.f (k : Nat) (a0 : Int) : Option (Int × Int) := if a0 < 0 then (bits_Ungray.j0 k a0 true) else (bits_Ungray.j0 k a0 (decide (a0 ≥ 65536)))
theorem bits_Ungray.mono_l : ∀ k, (∀ y0 y1, LeO (bits_Ungray.j0 k y0 y1) (bits_Ungray.j0 (k + 1) y0 y1)) ∧ (∀ y0 y1, LeO (bits_Ungray.l0 k y0 y1) (bits_Ungray.l0 (k + 1) y0 y1))
  | 0 => ⟨fun _ _ r h => by simp [bits_Ungray.j0] at h, fun _ _ r h => by simp [bits_Ungray.l0] at h⟩
  | k + 1 => by
    obtain ⟨ih0, ih1⟩ := bits_Ungray.mono_l k
    refine ⟨?_, ?_⟩
    · intro y0 y1
      unfold bits_Ungray.j0
      repeat' first
      | (with_reducible exact ih0 _ _)
      | (with_reducible exact ih1 _ _)
      | (with_reducible exact LeO.refl _)
      | (with_reducible exact LeO.none _)
      | (with_reducible refine LeO.ite ?_ ?_)
      | (with_reducible refine LeO.bind ?_ (fun _ => ?_))
      | exact ih0 _ _
      | exact ih1 _ _
      | exact LeO.none _
      | refine LeO.ite ?_ ?_
      | refine LeO.bind ?_ (fun _ => ?_)
    · intro y0 y1
      unfold bits_Ungray.l0
      repeat' first
      | (with_reducible exact ih0 _ _)
      | (with_reducible exact ih1 _ _)
      | (with_reducible exact LeO.refl _)
      | (with_reducible exact LeO.none _)
      | (with_reducible refine LeO.ite ?_ ?_)
      | (with_reducible refine LeO.bind ?_ (fun _ => ?_))
      | exact ih0 _ _
      | exact ih1 _ _
      | exact LeO.none _
      | refine LeO.ite ?_ ?_
      | refine LeO.bind ?_ (fun _ => ?_)
theorem bits_Ungray.mono : ∀ a0 k, LeO (bits_Ungray.f k a0) (bits_Ungray.f (k + 1) a0) := by
  intro a0 k
  obtain ⟨ih0, ih1⟩ := bits_Ungray.mono_l k
  unfold bits_Ungray.f
  repeat' first
      | (with_reducible exact ih0 _ _)
      | (with_reducible exact ih1 _ _)
      | (with_reducible exact LeO.refl _)
      | (with_reducible exact LeO.none _)
      | (with_reducible refine LeO.ite ?_ ?_)
      | (with_reducible refine LeO.bind ?_ (fun _ => ?_))
      | exact ih0 _ _
      | exact ih1 _ _
      | exact LeO.none _
      | refine LeO.ite ?_ ?_
      | refine LeO.bind ?_ (fun _ => ?_)

/-! ### foghornlaw11_taps: function 23 -/
def foghornlaw11_taps.l0 : Nat → List (S174) → List (Nat × Nat) → Int → Option (List (Nat × Nat))
  | 0, _, _, _ => none
  | k + 1, x0, x3, x4 => if x4 < (x0.length : Int) then (if 0 ≤ x4 then ((floatBits .quo .f64 (floatOfInt .f64 ((rd_T174 x0 x4).f0)) 4634204016564240384).bind fun t108 => ((floatBits .quo .f64 (floatOfInt .f64 ((rd_T174 x0 x4).f1)) 4634204016564240384).bind fun t110 => (if (rd_T174 x0 x4).f2 = true then (if x3.length < 8796093022208 then (foghornlaw11_taps.l0 k x0 (x3 ++ [((IntKind.u64.wrap ((rd_T174 x0 x4).f0)).toNat, (IntKind.u64.wrap ((rd_T174 x0 x4).f1)).toNat)]) (wrap64 (x4 + 1))) else (none)) else (if x3.length < 8796093022208 then (foghornlaw11_taps.l0 k x0 (x3 ++ [(t108, t110)]) (wrap64 (x4 + 1))) else (none))))) else (none)) else (if x3.length < 8796093022208 then (if (x3.length : Int) ≤ ((x3 ++ [(4651892959631900672, 0)]).length : Int) then (some (x3)) else (none)) else (none))
def foghornlaw11_taps.f (k : Nat) (l0 : List (S174)) : Option (List (Nat × Nat)) := foghornlaw11_taps.l0 k l0 ([] : List (Nat × Nat)) 0
theorem foghornlaw11_taps.mono_l : ∀ k, (∀ y0 y1 y2, LeO (foghornlaw11_taps.l0 k y0 y1 y2) (foghornlaw11_taps.l0 (k + 1) y0 y1 y2))
  | 0 => fun _ _ _ r h => by simp [foghornlaw11_taps.l0] at h
  | k + 1 => by
    have ih0 := foghornlaw11_taps.mono_l k
    · intro y0 y1 y2
      unfold foghornlaw11_taps.l0
      repeat' first
      | (with_reducible exact ih0 _ _ _)
      | (with_reducible exact LeO.refl _)
      | (with_reducible exact LeO.none _)
      | (with_reducible refine LeO.ite ?_ ?_)
      | (with_reducible refine LeO.bind ?_ (fun _ => ?_))
      | exact ih0 _ _ _
      | exact LeO.none _
      | refine LeO.ite ?_ ?_
      | refine LeO.bind ?_ (fun _ => ?_)
theorem foghornlaw11_taps.mono : ∀ a0 k, LeO (foghornlaw11_taps.f k a0) (foghornlaw11_taps.f (k + 1) a0) := by
  intro a0 k
  have ih0 := foghornlaw11_taps.mono_l k
  unfold foghornlaw11_taps.f
  repeat' first
      | (with_reducible exact ih0 _ _ _)
      | (with_reducible exact LeO.refl _)
      | (with_reducible exact LeO.none _)
      | (with_reducible refine LeO.ite ?_ ?_)
      | (with_reducible refine LeO.bind ?_ (fun _ => ?_))
      | exact ih0 _ _ _
      | exact LeO.none _
      | refine LeO.ite ?_ ?_
      | refine LeO.bind ?_ (fun _ => ?_)
def foghornlaw11_taps.T5 : Bool × List (List Nat × List Nat) := (true, [([], []), ([], []), ([0, 1], [0, 1]), ([2], [2]), ([3], [3]), ([4], [4]), ([5], [5]), ([], []), ([], []), ([7, 8], [7, 8]), ([9], [9]), ([10], [10]), ([11], [11]), ([12], [12]), ([6, 13], [6, 13]), ([14, 0, 1, 2, 3, 4, 5, 6, 7, 8, 9, 10, 11, 12, 13, 14], [14])])
def foghornlaw11_taps.B5 : List Nat := [0, 0, 3, 7, 15, 31, 63, 0, 0, 384, 896, 1920, 3968, 8064, 16383, 32767]
theorem foghornlaw11_taps.tab5 : rtab .any (opsOf Try.f23 5) = foghornlaw11_taps.T5 := by kernel_rfl
theorem foghornlaw11_taps.bits5 : waitsOk foghornlaw11_taps.T5.2 foghornlaw11_taps.B5 = true := by kernel_rfl
def foghornlaw11_taps.T7 : Bool × List (List Nat × List Nat) := (true, [([], []), ([], []), ([0, 1], [0, 1]), ([2], [2]), ([3], [3]), ([4], [4]), ([5], [5]), ([], []), ([], []), ([7, 8], [7, 8]), ([9], [9]), ([10], [10]), ([11], [11]), ([12, 6], [12]), ([6, 13], [6, 13]), ([14, 13, 0, 1, 2, 3, 4, 5, 6, 7, 8, 9, 10, 11, 12, 13, 14], [14])])
def foghornlaw11_taps.B7 : List Nat := [0, 0, 3, 7, 15, 31, 63, 0, 0, 384, 896, 1920, 3968, 8191, 16383, 32767]
theorem foghornlaw11_taps.tab7 : rtab .any (opsOf Try.f23 7) = foghornlaw11_taps.T7 := by kernel_rfl
theorem foghornlaw11_taps.bits7 : waitsOk foghornlaw11_taps.T7.2 foghornlaw11_taps.B7 = true := by kernel_rfl

/-! ### foghornlaw11_numbers: function 24 -/
def foghornlaw11_numbers.l0 : Nat → List (S146) → List (Nat × Nat) → Int → Option (List (Nat × Nat))
  | 0, _, _, _ => none
  | k + 1, x0, x3, x4 => if x4 < (x0.length : Int) then (if 0 ≤ x4 then ((floatBits .quo .f64 (floatOfInt .f64 ((rd_T146 x0 x4).f0)) 4661225614328463360).bind fun t121 => ((floatBits .quo .f64 (floatOfInt .f64 ((rd_T146 x0 x4).f1)) 4661225614328463360).bind fun t123 => (if x3.length < 14073748835379 then (foghornlaw11_numbers.l0 k x0 (x3 ++ [(t121, t123)]) (wrap64 (x4 + 1))) else (none)))) else (none)) else (if x3.length < 14073748835379 then (if (x3.length : Int) ≤ ((x3 ++ [(4651892959631900672, 0)]).length : Int) then (some (x3)) else (none)) else (none))
def foghornlaw11_numbers.f (k : Nat) (l0 : List (S146)) : Option (List (Nat × Nat)) := foghornlaw11_numbers.l0 k l0 ([] : List (Nat × Nat)) 0
theorem foghornlaw11_numbers.mono_l : ∀ k, (∀ y0 y1 y2, LeO (foghornlaw11_numbers.l0 k y0 y1 y2) (foghornlaw11_numbers.l0 (k + 1) y0 y1 y2))
  | 0 => fun _ _ _ r h => by simp [foghornlaw11_numbers.l0] at h
  | k + 1 => by
    have ih0 := foghornlaw11_numbers.mono_l k
    · intro y0 y1 y2
      unfold foghornlaw11_numbers.l0
      repeat' first
      | (with_reducible exact ih0 _ _ _)
      | (with_reducible exact LeO.refl _)
      | (with_reducible exact LeO.none _)
      | (with_reducible refine LeO.ite ?_ ?_)
      | (with_reducible refine LeO.bind ?_ (fun _ => ?_))
      | exact ih0 _ _ _
      | exact LeO.none _
      | refine LeO.ite ?_ ?_
      | refine LeO.bind ?_ (fun _ => ?_)
theorem foghornlaw11_numbers.mono : ∀ a0 k, LeO (foghornlaw11_numbers.f k a0) (foghornlaw11_numbers.f (k + 1) a0) := by
  intro a0 k
  have ih0 := foghornlaw11_numbers.mono_l k
  unfold foghornlaw11_numbers.f
  repeat' first
      | (with_reducible exact ih0 _ _ _)
      | (with_reducible exact LeO.refl _)
      | (with_reducible exact LeO.none _)
      | (with_reducible refine LeO.ite ?_ ?_)
      | (with_reducible refine LeO.bind ?_ (fun _ => ?_))
      | exact ih0 _ _ _
      | exact LeO.none _
      | refine LeO.ite ?_ ?_
      | refine LeO.bind ?_ (fun _ => ?_)
def foghornlaw11_numbers.T5 : Bool × List (List Nat × List Nat) := (true, [([], []), ([], []), ([], []), ([1, 2], [1, 2]), ([3], [3]), ([4], [4]), ([5], [5]), ([6], [6]), ([], []), ([], []), ([8, 9], [8, 9]), ([10], [10]), ([11], [11]), ([12], [12]), ([13], [13]), ([7, 14], [7, 14]), ([15], [15]), ([0, 16], [0, 16]), ([17, 17, 0, 1, 2, 3, 4, 5, 6, 7, 8, 9, 10, 11, 12, 13, 14, 15, 16, 17], [0, 17])])
def foghornlaw11_numbers.B5 : List Nat := [0, 0, 0, 6, 14, 30, 62, 126, 0, 0, 768, 1792, 3840, 7936, 16128, 32766, 65534, 131071, 262143]
theorem foghornlaw11_numbers.tab5 : rtab .any (opsOf Try.f24 5) = foghornlaw11_numbers.T5 := by kernel_rfl
theorem foghornlaw11_numbers.bits5 : waitsOk foghornlaw11_numbers.T5.2 foghornlaw11_numbers.B5 = true := by kernel_rfl

/-! ### foghornref11_step: function 142 -/
def foghornref11_step.f (a0 : Nat) : Option (Bool) := if (FloatKind.f64.format.order a0 13830554455654793216 == some .gt || FloatKind.f64.format.order a0 13830554455654793216 == some .eq) = true then (if (FloatKind.f64.format.order a0 4607182418800017408 == some .lt || FloatKind.f64.format.order a0 4607182418800017408 == some .eq) = true then ((floatBits .mul .f64 a0 4634204016564240384).bind fun t133 => ((floatToIntVal .f64 t133 .i64).bind fun t134 => (some (FloatKind.f64.format.order (floatOfInt .f64 t134) t133 == some .eq)))) else (some false)) else (some false)

/-! ### foghornref11_size: function 143 -/
def foghornref11_size.f (a0 : Nat) : Option (Nat) := if (FloatKind.f64.format.order a0 0 == some .lt) = true then (some (Op.negFloat .f64 a0)) else (some a0)

/-! ### foghornref11_Taps: function 102 -/
mutual
def foghornref11_Taps.j0 : Nat → List (Nat × Nat) → Bool → Option (Bool)
  | 0, _, _ => none
  | k + 1, x0, x12 => if x12 = true then (some false) else (foghornref11_Taps.l0 k x0 0 0)
def foghornref11_Taps.l0 : Nat → List (Nat × Nat) → Nat → Int → Option (Bool)
  | 0, _, _, _ => none
  | k + 1, x0, x3, x4 => if x4 < (x0.length : Int) then (if 0 ≤ x4 then ((foghornref11_step.f ((rdOf (0, 0) x0 x4).1)).bind fun t136 => (if t136 = true then ((foghornref11_step.f ((rdOf (0, 0) x0 x4).2)).bind fun t138 => (foghornref11_Taps.j2 k x0 x3 x4 (!t138))) else (foghornref11_Taps.j2 k x0 x3 x4 true))) else (none)) else (some (FloatKind.f64.format.order x3 4616189618054758400 == some .lt || FloatKind.f64.format.order x3 4616189618054758400 == some .eq))
def foghornref11_Taps.j2 : Nat → List (Nat × Nat) → Nat → Int → Bool → Option (Bool)
  | 0, _, _, _, _ => none
  | k + 1, x0, x3, x4, x34 => if x34 = true then (some false) else (if 0 ≤ x4 then (if x4 < (x0.length : Int) then ((foghornref11_size.f ((rdOf (0, 0) x0 x4).1)).bind fun t140 => ((floatBits .add .f64 x3 t140).bind fun t141 => ((foghornref11_size.f ((rdOf (0, 0) x0 x4).2)).bind fun t143 => ((floatBits .add .f64 t141 t143).bind fun t144 => (foghornref11_Taps.l0 k x0 t144 (wrap64 (x4 + 1))))))) else (none)) else (none))
end
def foghornref11_Taps.f (k : Nat) (l0 : List (Nat × Nat)) : Option (Bool) := if (l0.length : Int) < 1 then (foghornref11_Taps.j0 k l0 true) else (foghornref11_Taps.j0 k l0 (decide ((l0.length : Int) > 64)))
theorem foghornref11_Taps.mono_l : ∀ k, (∀ y0 y1, LeO (foghornref11_Taps.j0 k y0 y1) (foghornref11_Taps.j0 (k + 1) y0 y1)) ∧ (∀ y0 y1 y2, LeO (foghornref11_Taps.l0 k y0 y1 y2) (foghornref11_Taps.l0 (k + 1) y0 y1 y2)) ∧ (∀ y0 y1 y2 y3, LeO (foghornref11_Taps.j2 k y0 y1 y2 y3) (foghornref11_Taps.j2 (k + 1) y0 y1 y2 y3))
  | 0 => ⟨fun _ _ r h => by simp [foghornref11_Taps.j0] at h, fun _ _ _ r h => by simp [foghornref11_Taps.l0] at h, fun _ _ _ _ r h => by simp [foghornref11_Taps.j2] at h⟩
  | k + 1 => by
    obtain ⟨ih0, ih1, ih2⟩ := foghornref11_Taps.mono_l k
    refine ⟨?_, ?_, ?_⟩
    · intro y0 y1
      unfold foghornref11_Taps.j0
      repeat' first
      | (with_reducible exact ih0 _ _)
      | (with_reducible exact ih1 _ _ _)
      | (with_reducible exact ih2 _ _ _ _)
      | (with_reducible exact LeO.refl _)
      | (with_reducible exact LeO.none _)
      | (with_reducible refine LeO.ite ?_ ?_)
      | (with_reducible refine LeO.bind ?_ (fun _ => ?_))
      | exact ih0 _ _
      | exact ih1 _ _ _
      | exact ih2 _ _ _ _
      | exact LeO.none _
      | refine LeO.ite ?_ ?_
      | refine LeO.bind ?_ (fun _ => ?_)
    · intro y0 y1 y2
      unfold foghornref11_Taps.l0
      repeat' first
      | (with_reducible exact ih0 _ _)
      | (with_reducible exact ih1 _ _ _)
      | (with_reducible exact ih2 _ _ _ _)
      | (with_reducible exact LeO.refl _)
      | (with_reducible exact LeO.none _)
      | (with_reducible refine LeO.ite ?_ ?_)
      | (with_reducible refine LeO.bind ?_ (fun _ => ?_))
      | exact ih0 _ _
      | exact ih1 _ _ _
      | exact ih2 _ _ _ _
      | exact LeO.none _
      | refine LeO.ite ?_ ?_
      | refine LeO.bind ?_ (fun _ => ?_)
    · intro y0 y1 y2 y3
      unfold foghornref11_Taps.j2
      repeat' first
      | (with_reducible exact ih0 _ _)
      | (with_reducible exact ih1 _ _ _)
      | (with_reducible exact ih2 _ _ _ _)
      | (with_reducible exact LeO.refl _)
      | (with_reducible exact LeO.none _)
      | (with_reducible refine LeO.ite ?_ ?_)
      | (with_reducible refine LeO.bind ?_ (fun _ => ?_))
      | exact ih0 _ _
      | exact ih1 _ _ _
      | exact ih2 _ _ _ _
      | exact LeO.none _
      | refine LeO.ite ?_ ?_
      | refine LeO.bind ?_ (fun _ => ?_)
theorem foghornref11_Taps.mono : ∀ a0 k, LeO (foghornref11_Taps.f k a0) (foghornref11_Taps.f (k + 1) a0) := by
  intro a0 k
  obtain ⟨ih0, ih1, ih2⟩ := foghornref11_Taps.mono_l k
  unfold foghornref11_Taps.f
  repeat' first
      | (with_reducible exact ih0 _ _)
      | (with_reducible exact ih1 _ _ _)
      | (with_reducible exact ih2 _ _ _ _)
      | (with_reducible exact LeO.refl _)
      | (with_reducible exact LeO.none _)
      | (with_reducible refine LeO.ite ?_ ?_)
      | (with_reducible refine LeO.bind ?_ (fun _ => ?_))
      | exact ih0 _ _
      | exact ih1 _ _ _
      | exact ih2 _ _ _ _
      | exact LeO.none _
      | refine LeO.ite ?_ ?_
      | refine LeO.bind ?_ (fun _ => ?_)

/-! ### foghornref02_On: function 103 -/
def foghornref02_On.f (a0 : Nat) : Option (Bool) := if (FloatKind.f64.format.order a0 13875590451928498176 == some .gt || FloatKind.f64.format.order a0 13875590451928498176 == some .eq) = true then (if ((FloatKind.f64.format.order a0 4652218415073722368 == some .lt || FloatKind.f64.format.order a0 4652218415073722368 == some .eq) = true) then ((floatBits .mul .f64 a0 4661225614328463360).bind fun t145 => ((floatToIntVal .f64 t145 .i64).bind fun t146 => (some (FloatKind.f64.format.order (floatOfInt .f64 t146) t145 == some .eq)))) else (some false)) else (some false)

/-! ### foghornref11_mul: function 104 -/
def foghornref11_mul.f (a0 : (Nat × Nat)) (a1 : (Nat × Nat)) : Option ((Nat × Nat)) := (floatBits .mul .f64 a0.1 a1.1).bind fun t147 => ((floatBits .mul .f64 a0.2 a1.2).bind fun t148 => ((floatBits .sub .f64 t147 t148).bind fun t149 => ((floatBits .mul .f64 a0.1 a1.2).bind fun t150 => ((floatBits .mul .f64 a0.2 a1.1).bind fun t151 => ((floatBits .add .f64 t150 t151).bind fun t152 => (some (t149, t152)))))))

/-! ### foghornref11_Echo: function 25 -/
mutual
def foghornref11_Echo.l0 : Nat → List (Nat × Nat) → List (Nat × Nat) → Int → Option (List (Nat × Nat) × Int)
  | 0, _, _, _ => none
  | k + 1, x0, x1, x6 => if x6 < (x1.length : Int) then (if 0 ≤ x6 then ((foghornref02_On.f ((rdOf (0, 0) x1 x6).1)).bind fun t155 => (if t155 = true then ((foghornref02_On.f ((rdOf (0, 0) x1 x6).2)).bind fun t157 => (if t157 = true then (foghornref11_Echo.l0 k x0 x1 (wrap64 (x6 + 1))) else (some (([] : List (Nat × Nat)), 7)))) else (some (([] : List (Nat × Nat)), 7)))) else (none)) else (foghornref11_Echo.l1 k x0 x1 ([] : List (Nat × Nat)) 0)
def foghornref11_Echo.l1 : Nat → List (Nat × Nat) → List (Nat × Nat) → List (Nat × Nat) → Int → Option (List (Nat × Nat) × Int)
  | 0, _, _, _, _ => none
  | k + 1, x0, x1, x7, x8 => if x8 < (x1.length : Int) then (foghornref11_Echo.l2 k x0 x1 x7 x8 (0, 0) 0) else (some (x7, 0))
def foghornref11_Echo.l2 : Nat → List (Nat × Nat) → List (Nat × Nat) → List (Nat × Nat) → Int → (Nat × Nat) → Int → Option (List (Nat × Nat) × Int)
  | 0, _, _, _, _, _, _ => none
  | k + 1, x0, x1, x7, x8, x9, x10 => if x10 < (x0.length : Int) then (if x10 ≤ x8 then (if 0 ≤ x10 then (if 0 ≤ (wrap64 (x8 - x10)) then (if (wrap64 (x8 - x10)) < (x1.length : Int) then ((foghornref11_mul.f (rdOf (0, 0) x0 x10) (rdOf (0, 0) x1 (wrap64 (x8 - x10)))).bind fun t160 => ((floatBits .add .f64 x9.1 t160.1).bind fun t161 => ((floatBits .add .f64 x9.2 t160.2).bind fun t162 => (foghornref11_Echo.l2 k x0 x1 x7 x8 (t161, t162) (wrap64 (x10 + 1)))))) else (none)) else (none)) else (none)) else (if x7.length < 8796093022208 then (foghornref11_Echo.l1 k x0 x1 (x7 ++ [x9]) (wrap64 (x8 + 1))) else (none))) else (if x7.length < 8796093022208 then (foghornref11_Echo.l1 k x0 x1 (x7 ++ [x9]) (wrap64 (x8 + 1))) else (none))
end
def foghornref11_Echo.f (k : Nat) (l0 : List (Nat × Nat)) (l1 : List (Nat × Nat)) : Option (List (Nat × Nat) × Int) := (foghornref11_Taps.f k l0).bind fun t153 => (if t153 = true then (if (l1.length : Int) > 65536 then (some (([] : List (Nat × Nat)), 1)) else (foghornref11_Echo.l0 k l0 l1 0)) else (some (([] : List (Nat × Nat)), 8)))
theorem foghornref11_Echo.mono_l : ∀ k, (∀ y0 y1 y2, LeO (foghornref11_Echo.l0 k y0 y1 y2) (foghornref11_Echo.l0 (k + 1) y0 y1 y2)) ∧ (∀ y0 y1 y2 y3, LeO (foghornref11_Echo.l1 k y0 y1 y2 y3) (foghornref11_Echo.l1 (k + 1) y0 y1 y2 y3)) ∧ (∀ y0 y1 y2 y3 y4 y5, LeO (foghornref11_Echo.l2 k y0 y1 y2 y3 y4 y5) (foghornref11_Echo.l2 (k + 1) y0 y1 y2 y3 y4 y5))
  | 0 => ⟨fun _ _ _ r h => by simp [foghornref11_Echo.l0] at h, fun _ _ _ _ r h => by simp [foghornref11_Echo.l1] at h, fun _ _ _ _ _ _ r h => by simp [foghornref11_Echo.l2] at h⟩
  | k + 1 => by
    obtain ⟨ih0, ih1, ih2⟩ := foghornref11_Echo.mono_l k
    refine ⟨?_, ?_, ?_⟩
    · intro y0 y1 y2
      unfold foghornref11_Echo.l0
      repeat' first
      | (with_reducible exact ih0 _ _ _)
      | (with_reducible exact ih1 _ _ _ _)
      | (with_reducible exact ih2 _ _ _ _ _ _)
      | (with_reducible exact foghornref11_Taps.mono _ _)
      | (with_reducible exact LeO.refl _)
      | (with_reducible exact LeO.none _)
      | (with_reducible refine LeO.ite ?_ ?_)
      | (with_reducible refine LeO.bind ?_ (fun _ => ?_))
      | exact ih0 _ _ _
      | exact ih1 _ _ _ _
      | exact ih2 _ _ _ _ _ _
      | exact foghornref11_Taps.mono _ _
      | exact LeO.none _
      | refine LeO.ite ?_ ?_
      | refine LeO.bind ?_ (fun _ => ?_)
    · intro y0 y1 y2 y3
      unfold foghornref11_Echo.l1
      repeat' first
      | (with_reducible exact ih0 _ _ _)
      | (with_reducible exact ih1 _ _ _ _)
      | (with_reducible exact ih2 _ _ _ _ _ _)
      | (with_reducible exact foghornref11_Taps.mono _ _)
      | (with_reducible exact LeO.refl _)
      | (with_reducible exact LeO.none _)
      | (with_reducible refine LeO.ite ?_ ?_)
      | (with_reducible refine LeO.bind ?_ (fun _ => ?_))
      | exact ih0 _ _ _
      | exact ih1 _ _ _ _
      | exact ih2 _ _ _ _ _ _
      | exact foghornref11_Taps.mono _ _
      | exact LeO.none _
      | refine LeO.ite ?_ ?_
      | refine LeO.bind ?_ (fun _ => ?_)
    · intro y0 y1 y2 y3 y4 y5
      unfold foghornref11_Echo.l2
      repeat' first
      | (with_reducible exact ih0 _ _ _)
      | (with_reducible exact ih1 _ _ _ _)
      | (with_reducible exact ih2 _ _ _ _ _ _)
      | (with_reducible exact foghornref11_Taps.mono _ _)
      | (with_reducible exact LeO.refl _)
      | (with_reducible exact LeO.none _)
      | (with_reducible refine LeO.ite ?_ ?_)
      | (with_reducible refine LeO.bind ?_ (fun _ => ?_))
      | exact ih0 _ _ _
      | exact ih1 _ _ _ _
      | exact ih2 _ _ _ _ _ _
      | exact foghornref11_Taps.mono _ _
      | exact LeO.none _
      | refine LeO.ite ?_ ?_
      | refine LeO.bind ?_ (fun _ => ?_)
theorem foghornref11_Echo.mono : ∀ a0 a1 k, LeO (foghornref11_Echo.f k a0 a1) (foghornref11_Echo.f (k + 1) a0 a1) := by
  intro a0 a1 k
  obtain ⟨ih0, ih1, ih2⟩ := foghornref11_Echo.mono_l k
  unfold foghornref11_Echo.f
  repeat' first
      | (with_reducible exact ih0 _ _ _)
      | (with_reducible exact ih1 _ _ _ _)
      | (with_reducible exact ih2 _ _ _ _ _ _)
      | (with_reducible exact foghornref11_Taps.mono _ _)
      | (with_reducible exact LeO.refl _)
      | (with_reducible exact LeO.none _)
      | (with_reducible refine LeO.ite ?_ ?_)
      | (with_reducible refine LeO.bind ?_ (fun _ => ?_))
      | exact ih0 _ _ _
      | exact ih1 _ _ _ _
      | exact ih2 _ _ _ _ _ _
      | exact foghornref11_Taps.mono _ _
      | exact LeO.none _
      | refine LeO.ite ?_ ?_
      | refine LeO.bind ?_ (fun _ => ?_)
def foghornref11_Echo.T18 : Bool × List (List Nat × List Nat) := (true, [([], []), ([], []), ([0, 1], [0, 1]), ([2], [2]), ([], []), ([], []), ([], []), ([5, 6], [5, 6]), ([4, 7], [4, 7]), ([8], [8]), ([3, 9], [3, 9]), ([10, 10, 0, 1, 2, 3, 4, 5, 6, 7, 8, 9, 10], [10])])
def foghornref11_Echo.B18 : List Nat := [0, 0, 3, 7, 0, 0, 0, 96, 240, 496, 1023, 2047]
theorem foghornref11_Echo.tab18 : rtab .any (opsOf Try.f25 18) = foghornref11_Echo.T18 := by kernel_rfl
theorem foghornref11_Echo.bits18 : waitsOk foghornref11_Echo.T18.2 foghornref11_Echo.B18 = true := by kernel_rfl

/-! ### math_Abs: function 131 -/
def math_Abs.f (a0 : Nat) : Option (Nat) := some ((Go.bits .andNot .u64 (a0 : Int) 9223372036854775808).toNat)

/-! ### math_IsNaN: function 113 -/
def math_IsNaN.f (a0 : Nat) : Option (Bool) := some (FloatKind.f64.format.order a0 a0 != some .eq)

/-! ### math_IsInf: function 153 -/
def math_IsInf.f (a0 : Nat) (a1 : Int) : Option (Bool) := if a1 = 0 then ((math_Abs.f a0).bind fun t169 => (some (FloatKind.f64.format.order t169 9218868437227405311 == some .gt))) else (if a1 < 0 then (some (FloatKind.f64.format.order (Op.negFloat .f64 a0) 9218868437227405311 == some .gt)) else (some (FloatKind.f64.format.order a0 9218868437227405311 == some .gt)))

/-! ### math_Floor: function 146 -/
def math_Floor.f (a0 : Nat) : Option (Nat) := (integF .down a0).bind fun t183 => (some t183)

/-! ### feedback_step: function 144 -/
def feedback_step.f (a0 : Nat) : Option (Bool) := (math_Abs.f a0).bind fun t184 => (if (FloatKind.f64.format.order t184 4607182418800017408 == some .lt || FloatKind.f64.format.order t184 4607182418800017408 == some .eq) = true then ((floatBits .mul .f64 a0 4634204016564240384).bind fun t185 => ((math_Floor.f t185).bind fun t186 => (some (FloatKind.f64.format.order t186 t185 == some .eq)))) else (some false))

/-! ### feedback_taps: function 105 -/
mutual
def feedback_taps.l0 : Nat → List (Nat × Nat) → Nat → List (Nat × Nat) → Int → Int → Option (Bool)
  | 0, _, _, _, _, _ => none
  | k + 1, x0, x3, x6, x7, x8 => if x8 < x7 then (if 0 ≤ x8 then (if x8 < (x6.length : Int) then ((feedback_step.f ((rdOf (0, 0) x6 x8).1)).bind fun t188 => (if t188 = true then ((feedback_step.f ((rdOf (0, 0) x6 x8).2)).bind fun t189 => (feedback_taps.j1 k x0 x3 (rdOf (0, 0) x6 x8) x6 x7 x8 (!t189))) else (feedback_taps.j1 k x0 x3 (rdOf (0, 0) x6 x8) x6 x7 x8 true))) else (none)) else (none)) else (if (x0.length : Int) > 0 then (if (x0.length : Int) ≤ 64 then (some (FloatKind.f64.format.order x3 4616189618054758400 == some .lt || FloatKind.f64.format.order x3 4616189618054758400 == some .eq)) else (some false)) else (some false))
def feedback_taps.j1 : Nat → List (Nat × Nat) → Nat → (Nat × Nat) → List (Nat × Nat) → Int → Int → Bool → Option (Bool)
  | 0, _, _, _, _, _, _, _ => none
  | k + 1, x0, x3, x5, x6, x7, x8, x21 => if x21 = true then (some false) else ((math_Abs.f x5.1).bind fun t190 => ((math_Abs.f x5.2).bind fun t191 => ((floatBits .add .f64 t190 t191).bind fun t192 => ((floatBits .add .f64 x3 t192).bind fun t193 => (feedback_taps.l0 k x0 t193 x6 x7 (wrap64 (x8 + 1)))))))
end
def feedback_taps.f (k : Nat) (l0 : List (Nat × Nat)) : Option (Bool) := feedback_taps.l0 k l0 0 l0 (l0.length : Int) 0
theorem feedback_taps.mono_l : ∀ k, (∀ y0 y1 y2 y3 y4, LeO (feedback_taps.l0 k y0 y1 y2 y3 y4) (feedback_taps.l0 (k + 1) y0 y1 y2 y3 y4)) ∧ (∀ y0 y1 y2 y3 y4 y5 y6, LeO (feedback_taps.j1 k y0 y1 y2 y3 y4 y5 y6) (feedback_taps.j1 (k + 1) y0 y1 y2 y3 y4 y5 y6))
  | 0 => ⟨fun _ _ _ _ _ r h => by simp [feedback_taps.l0] at h, fun _ _ _ _ _ _ _ r h => by simp [feedback_taps.j1] at h⟩
  | k + 1 => by
    obtain ⟨ih0, ih1⟩ := feedback_taps.mono_l k
    refine ⟨?_, ?_⟩
    · intro y0 y1 y2 y3 y4
      unfold feedback_taps.l0
      repeat' first
      | (with_reducible exact ih0 _ _ _ _ _)
      | (with_reducible exact ih1 _ _ _ _ _ _ _)
      | (with_reducible exact LeO.refl _)
      | (with_reducible exact LeO.none _)
      | (with_reducible refine LeO.ite ?_ ?_)
      | (with_reducible refine LeO.bind ?_ (fun _ => ?_))
      | exact ih0 _ _ _ _ _
      | exact ih1 _ _ _ _ _ _ _
      | exact LeO.none _
      | refine LeO.ite ?_ ?_
      | refine LeO.bind ?_ (fun _ => ?_)
    · intro y0 y1 y2 y3 y4 y5 y6
      unfold feedback_taps.j1
      repeat' first
      | (with_reducible exact ih0 _ _ _ _ _)
      | (with_reducible exact ih1 _ _ _ _ _ _ _)
      | (with_reducible exact LeO.refl _)
      | (with_reducible exact LeO.none _)
      | (with_reducible refine LeO.ite ?_ ?_)
      | (with_reducible refine LeO.bind ?_ (fun _ => ?_))
      | exact ih0 _ _ _ _ _
      | exact ih1 _ _ _ _ _ _ _
      | exact LeO.none _
      | refine LeO.ite ?_ ?_
      | refine LeO.bind ?_ (fun _ => ?_)
theorem feedback_taps.mono : ∀ a0 k, LeO (feedback_taps.f k a0) (feedback_taps.f (k + 1) a0) := by
  intro a0 k
  obtain ⟨ih0, ih1⟩ := feedback_taps.mono_l k
  unfold feedback_taps.f
  repeat' first
      | (with_reducible exact ih0 _ _ _ _ _)
      | (with_reducible exact ih1 _ _ _ _ _ _ _)
      | (with_reducible exact LeO.refl _)
      | (with_reducible exact LeO.none _)
      | (with_reducible refine LeO.ite ?_ ?_)
      | (with_reducible refine LeO.bind ?_ (fun _ => ?_))
      | exact ih0 _ _ _ _ _
      | exact ih1 _ _ _ _ _ _ _
      | exact LeO.none _
      | refine LeO.ite ?_ ?_
      | refine LeO.bind ?_ (fun _ => ?_)

/-! ### grid_within: function 145 -/
def grid_within.f (a0 : Nat) : Option (Bool) := if (FloatKind.f64.format.order a0 13875590451928498176 == some .gt || FloatKind.f64.format.order a0 13875590451928498176 == some .eq) = true then (some (FloatKind.f64.format.order a0 4652218415073722368 == some .lt || FloatKind.f64.format.order a0 4652218415073722368 == some .eq)) else (some false)

/-! ### grid_On: function 106 -/
def grid_On.f (a0 : Nat) : Option (Bool) := (grid_within.f a0).bind fun t194 => (if t194 = true then ((floatBits .mul .f64 a0 4661225614328463360).bind fun t195 => ((math_Floor.f t195).bind fun t196 => (some (FloatKind.f64.format.order t196 t195 == some .eq)))) else (some false))

/-! ### feedback_times: function 107 -/
def feedback_times.f (a0 : (Nat × Nat)) (a1 : (Nat × Nat)) : Option (Nat × Nat) := (floatBits .mul .f64 a0.1 a1.1).bind fun t197 => ((floatBits .mul .f64 a0.2 a1.2).bind fun t198 => ((floatBits .sub .f64 t197 t198).bind fun t199 => ((floatBits .mul .f64 a0.1 a1.2).bind fun t200 => ((floatBits .mul .f64 a0.2 a1.1).bind fun t201 => ((floatBits .add .f64 t200 t201).bind fun t202 => (some (t199, t202)))))))

/-! ### feedback_Echo: function 26 -/
mutual
def feedback_Echo.l0 : Nat → List (Nat × Nat) → List (Nat × Nat) → List (Nat × Nat) → Int → Int → Option (List (Nat × Nat) × Int)
  | 0, _, _, _, _, _ => none
  | k + 1, x0, x1, x24, x25, x26 => if x26 < x25 then (if 0 ≤ x26 then (if x26 < (x24.length : Int) then ((grid_On.f ((rdOf (0, 0) x24 x26).1)).bind fun t205 => (if t205 = true then ((grid_On.f ((rdOf (0, 0) x24 x26).2)).bind fun t206 => (if t206 = true then (feedback_Echo.l0 k x0 x1 x24 x25 (wrap64 (x26 + 1))) else (some (([] : List (Nat × Nat)), 7)))) else (some (([] : List (Nat × Nat)), 7)))) else (none)) else (none)) else (if 0 ≤ (x1.length : Int) then (if ((x1.length : Int) : Int).toNat ≤ 17592186044416 then (feedback_Echo.l1 k x0 x1 (List.replicate 0 ((0, 0) : Nat × Nat)) (x1.length : Int) 0) else (none)) else (none))
def feedback_Echo.l1 : Nat → List (Nat × Nat) → List (Nat × Nat) → List (Nat × Nat) → Int → Int → Option (List (Nat × Nat) × Int)
  | 0, _, _, _, _, _ => none
  | k + 1, x0, x1, x8, x45, x46 => if x46 < x45 then (if 0 ≤ (mn (x0.length : Int) (wrap64 (x46 + 1))) then (if (mn (x0.length : Int) (wrap64 (x46 + 1))) ≤ (x0.length : Int) then (feedback_Echo.l2 k x0 x1 x8 x46 0 0 x45 x46 (x0.take ((mn (x0.length : Int) (wrap64 (x46 + 1))) : Int).toNat) ((x0.take ((mn (x0.length : Int) (wrap64 (x46 + 1))) : Int).toNat).length : Int) 0) else (none)) else (none)) else (some (x8, 0))
def feedback_Echo.l2 : Nat → List (Nat × Nat) → List (Nat × Nat) → List (Nat × Nat) → Int → Nat → Nat → Int → Int → List (Nat × Nat) → Int → Int → Option (List (Nat × Nat) × Int)
  | 0, _, _, _, _, _, _, _, _, _, _, _ => none
  | k + 1, x0, x1, x8, x9, x10, x11, x45, x46, x55, x56, x57 => if x57 < x56 then (if 0 ≤ x57 then (if x57 < (x55.length : Int) then (if 0 ≤ (wrap64 (x9 - x57)) then (if (wrap64 (x9 - x57)) < (x1.length : Int) then ((feedback_times.f (rdOf (0, 0) x55 x57) (rdOf (0, 0) x1 (wrap64 (x9 - x57)))).bind fun bt213 => ((floatBits .add .f64 x10 bt213.1).bind fun t215 => ((floatBits .add .f64 x11 bt213.2).bind fun t216 => (feedback_Echo.l2 k x0 x1 x8 x9 t215 t216 x45 x46 x55 x56 (wrap64 (x57 + 1)))))) else (none)) else (none)) else (none)) else (none)) else (if x8.length < 8796093022208 then (feedback_Echo.l1 k x0 x1 (x8 ++ [(x10, x11)]) x45 (wrap64 (x46 + 1))) else (none))
end
def feedback_Echo.f (k : Nat) (l0 : List (Nat × Nat)) (l1 : List (Nat × Nat)) : Option (List (Nat × Nat) × Int) := (feedback_taps.f k l0).bind fun t203 => (if t203 = true then (if (l1.length : Int) > 65536 then (some (([] : List (Nat × Nat)), 1)) else (feedback_Echo.l0 k l0 l1 l1 (l1.length : Int) 0)) else (some (([] : List (Nat × Nat)), 8)))
theorem feedback_Echo.mono_l : ∀ k, (∀ y0 y1 y2 y3 y4, LeO (feedback_Echo.l0 k y0 y1 y2 y3 y4) (feedback_Echo.l0 (k + 1) y0 y1 y2 y3 y4)) ∧ (∀ y0 y1 y2 y3 y4, LeO (feedback_Echo.l1 k y0 y1 y2 y3 y4) (feedback_Echo.l1 (k + 1) y0 y1 y2 y3 y4)) ∧ (∀ y0 y1 y2 y3 y4 y5 y6 y7 y8 y9 y10, LeO (feedback_Echo.l2 k y0 y1 y2 y3 y4 y5 y6 y7 y8 y9 y10) (feedback_Echo.l2 (k + 1) y0 y1 y2 y3 y4 y5 y6 y7 y8 y9 y10))
  | 0 => ⟨fun _ _ _ _ _ r h => by simp [feedback_Echo.l0] at h, fun _ _ _ _ _ r h => by simp [feedback_Echo.l1] at h, fun _ _ _ _ _ _ _ _ _ _ _ r h => by simp [feedback_Echo.l2] at h⟩
  | k + 1 => by
    obtain ⟨ih0, ih1, ih2⟩ := feedback_Echo.mono_l k
    refine ⟨?_, ?_, ?_⟩
    · intro y0 y1 y2 y3 y4
      unfold feedback_Echo.l0
      repeat' first
      | (with_reducible exact ih0 _ _ _ _ _)
      | (with_reducible exact ih1 _ _ _ _ _)
      | (with_reducible exact ih2 _ _ _ _ _ _ _ _ _ _ _)
      | (with_reducible exact feedback_taps.mono _ _)
      | (with_reducible exact LeO.refl _)
      | (with_reducible exact LeO.none _)
      | (with_reducible refine LeO.ite ?_ ?_)
      | (with_reducible refine LeO.bind ?_ (fun _ => ?_))
      | exact ih0 _ _ _ _ _
      | exact ih1 _ _ _ _ _
      | exact ih2 _ _ _ _ _ _ _ _ _ _ _
      | exact feedback_taps.mono _ _
      | exact LeO.none _
      | refine LeO.ite ?_ ?_
      | refine LeO.bind ?_ (fun _ => ?_)
    · intro y0 y1 y2 y3 y4
      unfold feedback_Echo.l1
      repeat' first
      | (with_reducible exact ih0 _ _ _ _ _)
      | (with_reducible exact ih1 _ _ _ _ _)
      | (with_reducible exact ih2 _ _ _ _ _ _ _ _ _ _ _)
      | (with_reducible exact feedback_taps.mono _ _)
      | (with_reducible exact LeO.refl _)
      | (with_reducible exact LeO.none _)
      | (with_reducible refine LeO.ite ?_ ?_)
      | (with_reducible refine LeO.bind ?_ (fun _ => ?_))
      | exact ih0 _ _ _ _ _
      | exact ih1 _ _ _ _ _
      | exact ih2 _ _ _ _ _ _ _ _ _ _ _
      | exact feedback_taps.mono _ _
      | exact LeO.none _
      | refine LeO.ite ?_ ?_
      | refine LeO.bind ?_ (fun _ => ?_)
    · intro y0 y1 y2 y3 y4 y5 y6 y7 y8 y9 y10
      unfold feedback_Echo.l2
      repeat' first
      | (with_reducible exact ih0 _ _ _ _ _)
      | (with_reducible exact ih1 _ _ _ _ _)
      | (with_reducible exact ih2 _ _ _ _ _ _ _ _ _ _ _)
      | (with_reducible exact feedback_taps.mono _ _)
      | (with_reducible exact LeO.refl _)
      | (with_reducible exact LeO.none _)
      | (with_reducible refine LeO.ite ?_ ?_)
      | (with_reducible refine LeO.bind ?_ (fun _ => ?_))
      | exact ih0 _ _ _ _ _
      | exact ih1 _ _ _ _ _
      | exact ih2 _ _ _ _ _ _ _ _ _ _ _
      | exact feedback_taps.mono _ _
      | exact LeO.none _
      | refine LeO.ite ?_ ?_
      | refine LeO.bind ?_ (fun _ => ?_)
theorem feedback_Echo.mono : ∀ a0 a1 k, LeO (feedback_Echo.f k a0 a1) (feedback_Echo.f (k + 1) a0 a1) := by
  intro a0 a1 k
  obtain ⟨ih0, ih1, ih2⟩ := feedback_Echo.mono_l k
  unfold feedback_Echo.f
  repeat' first
      | (with_reducible exact ih0 _ _ _ _ _)
      | (with_reducible exact ih1 _ _ _ _ _)
      | (with_reducible exact ih2 _ _ _ _ _ _ _ _ _ _ _)
      | (with_reducible exact feedback_taps.mono _ _)
      | (with_reducible exact LeO.refl _)
      | (with_reducible exact LeO.none _)
      | (with_reducible refine LeO.ite ?_ ?_)
      | (with_reducible refine LeO.bind ?_ (fun _ => ?_))
      | exact ih0 _ _ _ _ _
      | exact ih1 _ _ _ _ _
      | exact ih2 _ _ _ _ _ _ _ _ _ _ _
      | exact feedback_taps.mono _ _
      | exact LeO.none _
      | refine LeO.ite ?_ ?_
      | refine LeO.bind ?_ (fun _ => ?_)

/-! ### feedback_turned: function 138 -/
def feedback_turned.l0 : Nat → (Nat × Nat) → Int → Int → Option ((Nat × Nat))
  | 0, _, _, _ => none
  | k + 1, x0, x5, x6 => if x6 < x5 then (feedback_turned.l0 k (x0.2, Op.negFloat .f64 x0.1) x5 (wrap64 (x6 + 1))) else (some x0)
def feedback_turned.f (k : Nat) (a0 : (Nat × Nat)) (a1 : Int) : Option ((Nat × Nat)) := feedback_turned.l0 k a0 a1 0
theorem feedback_turned.mono_l : ∀ k, (∀ y0 y1 y2, LeO (feedback_turned.l0 k y0 y1 y2) (feedback_turned.l0 (k + 1) y0 y1 y2))
  | 0 => fun _ _ _ r h => by simp [feedback_turned.l0] at h
  | k + 1 => by
    have ih0 := feedback_turned.mono_l k
    · intro y0 y1 y2
      unfold feedback_turned.l0
      repeat' first
      | (with_reducible exact ih0 _ _ _)
      | (with_reducible exact LeO.refl _)
      | (with_reducible exact LeO.none _)
      | (with_reducible refine LeO.ite ?_ ?_)
      | (with_reducible refine LeO.bind ?_ (fun _ => ?_))
      | exact ih0 _ _ _
      | exact LeO.none _
      | refine LeO.ite ?_ ?_
      | refine LeO.bind ?_ (fun _ => ?_)
theorem feedback_turned.mono : ∀ a0 a1 k, LeO (feedback_turned.f k a0 a1) (feedback_turned.f (k + 1) a0 a1) := by
  intro a0 a1 k
  have ih0 := feedback_turned.mono_l k
  unfold feedback_turned.f
  repeat' first
      | (with_reducible exact ih0 _ _ _)
      | (with_reducible exact LeO.refl _)
      | (with_reducible exact LeO.none _)
      | (with_reducible refine LeO.ite ?_ ?_)
      | (with_reducible refine LeO.bind ?_ (fun _ => ?_))
      | exact ih0 _ _ _
      | exact LeO.none _
      | refine LeO.ite ?_ ?_
      | refine LeO.bind ?_ (fun _ => ?_)

/-! ### feedback_first: function 108 -/
def feedback_first.l0 : Nat → (Nat × Nat) → Int → Option (Nat × Int × Bool)
  | 0, _, _ => none
  | k + 1, x0, x7 => if x7 < 4 then ((feedback_turned.f k x0 x7).bind fun t220 => (if (FloatKind.f64.format.order t220.2 0 == some .eq) = true then (if (FloatKind.f64.format.order t220.1 4607182418800017408 == some .eq) = true then (some (t220.1, x7, true)) else (if (FloatKind.f64.format.order t220.1 4602678819172646912 == some .eq) = true then (some (t220.1, x7, true)) else (if (FloatKind.f64.format.order t220.1 4598175219545276416 == some .eq) = true then (some (t220.1, x7, true)) else (feedback_first.l0 k x0 (wrap64 (x7 + 1)))))) else (feedback_first.l0 k x0 (wrap64 (x7 + 1))))) else (some (0, 0, false))
def feedback_first.f (k : Nat) (a0 : (Nat × Nat)) : Option (Nat × Int × Bool) := feedback_first.l0 k a0 0
theorem feedback_first.mono_l : ∀ k, (∀ y0 y1, LeO (feedback_first.l0 k y0 y1) (feedback_first.l0 (k + 1) y0 y1))
  | 0 => fun _ _ r h => by simp [feedback_first.l0] at h
  | k + 1 => by
    have ih0 := feedback_first.mono_l k
    · intro y0 y1
      unfold feedback_first.l0
      repeat' first
      | (with_reducible exact ih0 _ _)
      | (with_reducible exact feedback_turned.mono _ _ _)
      | (with_reducible exact LeO.refl _)
      | (with_reducible exact LeO.none _)
      | (with_reducible refine LeO.ite ?_ ?_)
      | (with_reducible refine LeO.bind ?_ (fun _ => ?_))
      | exact ih0 _ _
      | exact feedback_turned.mono _ _ _
      | exact LeO.none _
      | refine LeO.ite ?_ ?_
      | refine LeO.bind ?_ (fun _ => ?_)
theorem feedback_first.mono : ∀ a0 k, LeO (feedback_first.f k a0) (feedback_first.f (k + 1) a0) := by
  intro a0 k
  have ih0 := feedback_first.mono_l k
  unfold feedback_first.f
  repeat' first
      | (with_reducible exact ih0 _ _)
      | (with_reducible exact feedback_turned.mono _ _ _)
      | (with_reducible exact LeO.refl _)
      | (with_reducible exact LeO.none _)
      | (with_reducible refine LeO.ite ?_ ?_)
      | (with_reducible refine LeO.bind ?_ (fun _ => ?_))
      | exact ih0 _ _
      | exact feedback_turned.mono _ _ _
      | exact LeO.none _
      | refine LeO.ite ?_ ?_
      | refine LeO.bind ?_ (fun _ => ?_)

/-! ### feedback_Check: function 27 -/
def feedback_Check.f (k : Nat) (l0 : List (Nat × Nat)) : Option (Int) := (feedback_taps.f k l0).bind fun t221 => (if t221 = true then (if 0 < (l0.length : Int) then ((feedback_first.f k (rdOf (0, 0) l0 0)).bind fun bt223 => (if bt223.2.2 = true then (some 0) else (some 110))) else (none)) else (some 8))
theorem feedback_Check.mono : ∀ a0 k, LeO (feedback_Check.f k a0) (feedback_Check.f (k + 1) a0) := by
  intro a0 k
  unfold feedback_Check.f
  repeat' first
      | (with_reducible exact feedback_first.mono _ _)
      | (with_reducible exact feedback_taps.mono _ _)
      | (with_reducible exact LeO.refl _)
      | (with_reducible exact LeO.none _)
      | (with_reducible refine LeO.ite ?_ ?_)
      | (with_reducible refine LeO.bind ?_ (fun _ => ?_))
      | exact feedback_first.mono _ _
      | exact feedback_taps.mono _ _
      | exact LeO.none _
      | refine LeO.ite ?_ ?_
      | refine LeO.bind ?_ (fun _ => ?_)

/-! ### foghornref11_Turn: function 94 -/
def foghornref11_Turn.l0 : Nat → (Nat × Nat) → Int → Int → Option ((Nat × Nat))
  | 0, _, _, _ => none
  | k + 1, x0, x1, x5 => if x5 < x1 then (foghornref11_Turn.l0 k (Op.negFloat .f64 x0.2, x0.1) x1 (wrap64 (x5 + 1))) else (some x0)
def foghornref11_Turn.f (k : Nat) (a0 : (Nat × Nat)) (a1 : Int) : Option ((Nat × Nat)) := foghornref11_Turn.l0 k a0 a1 0
theorem foghornref11_Turn.mono_l : ∀ k, (∀ y0 y1 y2, LeO (foghornref11_Turn.l0 k y0 y1 y2) (foghornref11_Turn.l0 (k + 1) y0 y1 y2))
  | 0 => fun _ _ _ r h => by simp [foghornref11_Turn.l0] at h
  | k + 1 => by
    have ih0 := foghornref11_Turn.mono_l k
    · intro y0 y1 y2
      unfold foghornref11_Turn.l0
      repeat' first
      | (with_reducible exact ih0 _ _ _)
      | (with_reducible exact LeO.refl _)
      | (with_reducible exact LeO.none _)
      | (with_reducible refine LeO.ite ?_ ?_)
      | (with_reducible refine LeO.bind ?_ (fun _ => ?_))
      | exact ih0 _ _ _
      | exact LeO.none _
      | refine LeO.ite ?_ ?_
      | refine LeO.bind ?_ (fun _ => ?_)
theorem foghornref11_Turn.mono : ∀ a0 a1 k, LeO (foghornref11_Turn.f k a0 a1) (foghornref11_Turn.f (k + 1) a0 a1) := by
  intro a0 a1 k
  have ih0 := foghornref11_Turn.mono_l k
  unfold foghornref11_Turn.f
  repeat' first
      | (with_reducible exact ih0 _ _ _)
      | (with_reducible exact LeO.refl _)
      | (with_reducible exact LeO.none _)
      | (with_reducible refine LeO.ite ?_ ?_)
      | (with_reducible refine LeO.bind ?_ (fun _ => ?_))
      | exact ih0 _ _ _
      | exact LeO.none _
      | refine LeO.ite ?_ ?_
      | refine LeO.bind ?_ (fun _ => ?_)

/-! ### foghornref11_First: function 99 -/
mutual
def foghornref11_First.l0 : Nat → (Nat × Nat) → List Nat → Int → Int → Option (Nat × Int)
  | 0, _, _, _, _ => none
  | k + 1, x0, x7, x8, x9 => if x9 < x8 then (if 0 ≤ x9 then (if x9 < (x7.length : Int) then (foghornref11_First.l1 k x0 (rdOf 0 x7 x9) 0 x7 x8 x9) else (none)) else (none)) else (some (0, 0))
def foghornref11_First.l1 : Nat → (Nat × Nat) → Nat → Int → List Nat → Int → Int → Option (Nat × Int)
  | 0, _, _, _, _, _, _ => none
  | k + 1, x0, x5, x6, x7, x8, x9 => if x6 < 4 then ((foghornref11_Turn.f k (x5, 0) x6).bind fun t230 => (if ((FloatKind.f64.format.order t230.1 x0.1 == some .eq) && (FloatKind.f64.format.order t230.2 x0.2 == some .eq)) = true then (some (x5, x6)) else (foghornref11_First.l1 k x0 x5 (wrap64 (x6 + 1)) x7 x8 x9))) else (foghornref11_First.l0 k x0 x7 x8 (wrap64 (x9 + 1)))
end
def foghornref11_First.f (k : Nat) (a0 : (Nat × Nat)) : Option (Nat × Int) := (some (([4607182418800017408, 4602678819172646912, 4598175219545276416] : List Nat) : List Nat)).bind fun y226 => (foghornref11_First.l0 k a0 y226 (y226.length : Int) 0)
theorem foghornref11_First.mono_l : ∀ k, (∀ y0 y1 y2 y3, LeO (foghornref11_First.l0 k y0 y1 y2 y3) (foghornref11_First.l0 (k + 1) y0 y1 y2 y3)) ∧ (∀ y0 y1 y2 y3 y4 y5, LeO (foghornref11_First.l1 k y0 y1 y2 y3 y4 y5) (foghornref11_First.l1 (k + 1) y0 y1 y2 y3 y4 y5))
  | 0 => ⟨fun _ _ _ _ r h => by simp [foghornref11_First.l0] at h, fun _ _ _ _ _ _ r h => by simp [foghornref11_First.l1] at h⟩
  | k + 1 => by
    obtain ⟨ih0, ih1⟩ := foghornref11_First.mono_l k
    refine ⟨?_, ?_⟩
    · intro y0 y1 y2 y3
      unfold foghornref11_First.l0
      repeat' first
      | (with_reducible exact ih0 _ _ _ _)
      | (with_reducible exact ih1 _ _ _ _ _ _)
      | (with_reducible exact foghornref11_Turn.mono _ _ _)
      | (with_reducible exact LeO.refl _)
      | (with_reducible exact LeO.none _)
      | (with_reducible refine LeO.ite ?_ ?_)
      | (with_reducible refine LeO.bind ?_ (fun _ => ?_))
      | exact ih0 _ _ _ _
      | exact ih1 _ _ _ _ _ _
      | exact foghornref11_Turn.mono _ _ _
      | exact LeO.none _
      | refine LeO.ite ?_ ?_
      | refine LeO.bind ?_ (fun _ => ?_)
    · intro y0 y1 y2 y3 y4 y5
      unfold foghornref11_First.l1
      repeat' first
      | (with_reducible exact ih0 _ _ _ _)
      | (with_reducible exact ih1 _ _ _ _ _ _)
      | (with_reducible exact foghornref11_Turn.mono _ _ _)
      | (with_reducible exact LeO.refl _)
      | (with_reducible exact LeO.none _)
      | (with_reducible refine LeO.ite ?_ ?_)
      | (with_reducible refine LeO.bind ?_ (fun _ => ?_))
      | exact ih0 _ _ _ _
      | exact ih1 _ _ _ _ _ _
      | exact foghornref11_Turn.mono _ _ _
      | exact LeO.none _
      | refine LeO.ite ?_ ?_
      | refine LeO.bind ?_ (fun _ => ?_)
theorem foghornref11_First.mono : ∀ a0 k, LeO (foghornref11_First.f k a0) (foghornref11_First.f (k + 1) a0) := by
  intro a0 k
  obtain ⟨ih0, ih1⟩ := foghornref11_First.mono_l k
  unfold foghornref11_First.f
  repeat' first
      | (with_reducible exact ih0 _ _ _ _)
      | (with_reducible exact ih1 _ _ _ _ _ _)
      | (with_reducible exact foghornref11_Turn.mono _ _ _)
      | (with_reducible exact LeO.refl _)
      | (with_reducible exact LeO.none _)
      | (with_reducible refine LeO.ite ?_ ?_)
      | (with_reducible refine LeO.bind ?_ (fun _ => ?_))
      | exact ih0 _ _ _ _
      | exact ih1 _ _ _ _ _ _
      | exact foghornref11_Turn.mono _ _ _
      | exact LeO.none _
      | refine LeO.ite ?_ ?_
      | refine LeO.bind ?_ (fun _ => ?_)

/-! ### foghornref11_Check: function 28 -/
def foghornref11_Check.f (k : Nat) (l0 : List (Nat × Nat)) : Option (Int) := (foghornref11_Taps.f k l0).bind fun t231 => (if t231 = true then (if 0 < (l0.length : Int) then ((foghornref11_First.f k (rdOf (0, 0) l0 0)).bind fun bt233 => (if (FloatKind.f64.format.order bt233.1 0 == some .eq) = true then (some 110) else (some 0))) else (none)) else (some 8))
theorem foghornref11_Check.mono : ∀ a0 k, LeO (foghornref11_Check.f k a0) (foghornref11_Check.f (k + 1) a0) := by
  intro a0 k
  unfold foghornref11_Check.f
  repeat' first
      | (with_reducible exact foghornref11_First.mono _ _)
      | (with_reducible exact foghornref11_Taps.mono _ _)
      | (with_reducible exact LeO.refl _)
      | (with_reducible exact LeO.none _)
      | (with_reducible refine LeO.ite ?_ ?_)
      | (with_reducible refine LeO.bind ?_ (fun _ => ?_))
      | exact foghornref11_First.mono _ _
      | exact foghornref11_Taps.mono _ _
      | exact LeO.none _
      | refine LeO.ite ?_ ?_
      | refine LeO.bind ?_ (fun _ => ?_)

/-! ### foghornref11_Same: function 30 -/
def foghornref11_Same.l0 : Nat → List (Nat × Nat) → List (Nat × Nat) → Int → Option (Bool)
  | 0, _, _, _ => none
  | k + 1, x0, x1, x5 => if x5 < (x0.length : Int) then (if 0 ≤ x5 then (if x5 < (x1.length : Int) then (if (!((FloatKind.f64.format.order ((rdOf (0, 0) x0 x5).1) ((rdOf (0, 0) x1 x5).1) == some .eq) && (FloatKind.f64.format.order ((rdOf (0, 0) x0 x5).2) ((rdOf (0, 0) x1 x5).2) == some .eq))) = true then (some false) else (foghornref11_Same.l0 k x0 x1 (wrap64 (x5 + 1)))) else (none)) else (none)) else (some true)
def foghornref11_Same.f (k : Nat) (l0 : List (Nat × Nat)) (l1 : List (Nat × Nat)) : Option (Bool) := if (l0.length : Int) = (l1.length : Int) then (foghornref11_Same.l0 k l0 l1 0) else (some false)
theorem foghornref11_Same.mono_l : ∀ k, (∀ y0 y1 y2, LeO (foghornref11_Same.l0 k y0 y1 y2) (foghornref11_Same.l0 (k + 1) y0 y1 y2))
  | 0 => fun _ _ _ r h => by simp [foghornref11_Same.l0] at h
  | k + 1 => by
    have ih0 := foghornref11_Same.mono_l k
    · intro y0 y1 y2
      unfold foghornref11_Same.l0
      repeat' first
      | (with_reducible exact ih0 _ _ _)
      | (with_reducible exact LeO.refl _)
      | (with_reducible exact LeO.none _)
      | (with_reducible refine LeO.ite ?_ ?_)
      | (with_reducible refine LeO.bind ?_ (fun _ => ?_))
      | exact ih0 _ _ _
      | exact LeO.none _
      | refine LeO.ite ?_ ?_
      | refine LeO.bind ?_ (fun _ => ?_)
theorem foghornref11_Same.mono : ∀ a0 a1 k, LeO (foghornref11_Same.f k a0 a1) (foghornref11_Same.f (k + 1) a0 a1) := by
  intro a0 a1 k
  have ih0 := foghornref11_Same.mono_l k
  unfold foghornref11_Same.f
  repeat' first
      | (with_reducible exact ih0 _ _ _)
      | (with_reducible exact LeO.refl _)
      | (with_reducible exact LeO.none _)
      | (with_reducible refine LeO.ite ?_ ?_)
      | (with_reducible refine LeO.bind ?_ (fun _ => ?_))
      | exact ih0 _ _ _
      | exact LeO.none _
      | refine LeO.ite ?_ ?_
      | refine LeO.bind ?_ (fun _ => ?_)

/-! ### foghornlaw11_fresh: function 29 -/
mutual
def foghornlaw11_fresh.j0 : Nat → List (Nat × Nat) → List (Nat × Nat) → List (Nat × Nat) → Bool → Option (Bool)
  | 0, _, _, _, _ => none
  | k + 1, x0, x1, x2, x18 => if x18 = true then (some false) else (foghornlaw11_fresh.l0 k x0 x1 x2 0)
def foghornlaw11_fresh.l0 : Nat → List (Nat × Nat) → List (Nat × Nat) → List (Nat × Nat) → Int → Option (Bool)
  | 0, _, _, _, _ => none
  | k + 1, x0, x1, x2, x7 => if x7 < (x0.length : Int) then (if 0 ≤ x7 then (foghornlaw11_fresh.l0 k (x0.set (x7 : Int).toNat (4648093047446306816, 0)) x1 x2 (wrap64 (x7 + 1))) else (none)) else (foghornlaw11_fresh.l1 k x0 x1 x2 0)
def foghornlaw11_fresh.l1 : Nat → List (Nat × Nat) → List (Nat × Nat) → List (Nat × Nat) → Int → Option (Bool)
  | 0, _, _, _, _ => none
  | k + 1, x0, x1, x2, x8 => if x8 < 20 then (if x0.length < 8796093022208 then (foghornlaw11_fresh.l1 k (x0 ++ [(4649069413771771904, 0)]) x1 x2 (wrap64 (x8 + 1))) else (none)) else ((foghornref11_Same.f k x1 x2).bind fun t243 => (if t243 = true then (some ((x0.length : Int) == (wrap64 ((x2.length : Int) + 20)))) else (some false)))
end
def foghornlaw11_fresh.f (k : Nat) (l0 : List (Nat × Nat)) (l1 : List (Nat × Nat)) (l2 : List (Nat × Nat)) : Option (Bool) := (foghornref11_Same.f k l0 l2).bind fun t237 => (if t237 = true then ((foghornref11_Same.f k l1 l2).bind fun t238 => (foghornlaw11_fresh.j0 k l0 l1 l2 (!t238))) else (foghornlaw11_fresh.j0 k l0 l1 l2 true))
theorem foghornlaw11_fresh.mono_l : ∀ k, (∀ y0 y1 y2 y3, LeO (foghornlaw11_fresh.j0 k y0 y1 y2 y3) (foghornlaw11_fresh.j0 (k + 1) y0 y1 y2 y3)) ∧ (∀ y0 y1 y2 y3, LeO (foghornlaw11_fresh.l0 k y0 y1 y2 y3) (foghornlaw11_fresh.l0 (k + 1) y0 y1 y2 y3)) ∧ (∀ y0 y1 y2 y3, LeO (foghornlaw11_fresh.l1 k y0 y1 y2 y3) (foghornlaw11_fresh.l1 (k + 1) y0 y1 y2 y3))
  | 0 => ⟨fun _ _ _ _ r h => by simp [foghornlaw11_fresh.j0] at h, fun _ _ _ _ r h => by simp [foghornlaw11_fresh.l0] at h, fun _ _ _ _ r h => by simp [foghornlaw11_fresh.l1] at h⟩
  | k + 1 => by
    obtain ⟨ih0, ih1, ih2⟩ := foghornlaw11_fresh.mono_l k
    refine ⟨?_, ?_, ?_⟩
    · intro y0 y1 y2 y3
      unfold foghornlaw11_fresh.j0
      repeat' first
      | (with_reducible exact ih0 _ _ _ _)
      | (with_reducible exact ih1 _ _ _ _)
      | (with_reducible exact ih2 _ _ _ _)
      | (with_reducible exact foghornref11_Same.mono _ _ _)
      | (with_reducible exact LeO.refl _)
      | (with_reducible exact LeO.none _)
      | (with_reducible refine LeO.ite ?_ ?_)
      | (with_reducible refine LeO.bind ?_ (fun _ => ?_))
      | exact ih0 _ _ _ _
      | exact ih1 _ _ _ _
      | exact ih2 _ _ _ _
      | exact foghornref11_Same.mono _ _ _
      | exact LeO.none _
      | refine LeO.ite ?_ ?_
      | refine LeO.bind ?_ (fun _ => ?_)
    · intro y0 y1 y2 y3
      unfold foghornlaw11_fresh.l0
      repeat' first
      | (with_reducible exact ih0 _ _ _ _)
      | (with_reducible exact ih1 _ _ _ _)
      | (with_reducible exact ih2 _ _ _ _)
      | (with_reducible exact foghornref11_Same.mono _ _ _)
      | (with_reducible exact LeO.refl _)
      | (with_reducible exact LeO.none _)
      | (with_reducible refine LeO.ite ?_ ?_)
      | (with_reducible refine LeO.bind ?_ (fun _ => ?_))
      | exact ih0 _ _ _ _
      | exact ih1 _ _ _ _
      | exact ih2 _ _ _ _
      | exact foghornref11_Same.mono _ _ _
      | exact LeO.none _
      | refine LeO.ite ?_ ?_
      | refine LeO.bind ?_ (fun _ => ?_)
    · intro y0 y1 y2 y3
      unfold foghornlaw11_fresh.l1
      repeat' first
      | (with_reducible exact ih0 _ _ _ _)
      | (with_reducible exact ih1 _ _ _ _)
      | (with_reducible exact ih2 _ _ _ _)
      | (with_reducible exact foghornref11_Same.mono _ _ _)
      | (with_reducible exact LeO.refl _)
      | (with_reducible exact LeO.none _)
      | (with_reducible refine LeO.ite ?_ ?_)
      | (with_reducible refine LeO.bind ?_ (fun _ => ?_))
      | exact ih0 _ _ _ _
      | exact ih1 _ _ _ _
      | exact ih2 _ _ _ _
      | exact foghornref11_Same.mono _ _ _
      | exact LeO.none _
      | refine LeO.ite ?_ ?_
      | refine LeO.bind ?_ (fun _ => ?_)
theorem foghornlaw11_fresh.mono : ∀ a0 a1 a2 k, LeO (foghornlaw11_fresh.f k a0 a1 a2) (foghornlaw11_fresh.f (k + 1) a0 a1 a2) := by
  intro a0 a1 a2 k
  obtain ⟨ih0, ih1, ih2⟩ := foghornlaw11_fresh.mono_l k
  unfold foghornlaw11_fresh.f
  repeat' first
      | (with_reducible exact ih0 _ _ _ _)
      | (with_reducible exact ih1 _ _ _ _)
      | (with_reducible exact ih2 _ _ _ _)
      | (with_reducible exact foghornref11_Same.mono _ _ _)
      | (with_reducible exact LeO.refl _)
      | (with_reducible exact LeO.none _)
      | (with_reducible refine LeO.ite ?_ ?_)
      | (with_reducible refine LeO.bind ?_ (fun _ => ?_))
      | exact ih0 _ _ _ _
      | exact ih1 _ _ _ _
      | exact ih2 _ _ _ _
      | exact foghornref11_Same.mono _ _ _
      | exact LeO.none _
      | refine LeO.ite ?_ ?_
      | refine LeO.bind ?_ (fun _ => ?_)

/-! ### foghornlaw11_FeedbackEchoes: function 3 -/
mutual
def foghornlaw11_FeedbackEchoes.j0 : Nat → List (Nat × Nat) → List (Nat × Nat) → Bool → Option (Bool)
  | 0, _, _, _ => none
  | k + 1, x5, x6, x88 => if x88 = true then (some false) else (foghornlaw11_FeedbackEchoes.l0 k x5 x6 0)
def foghornlaw11_FeedbackEchoes.l0 : Nat → List (Nat × Nat) → List (Nat × Nat) → Int → Option (Bool)
  | 0, _, _, _ => none
  | k + 1, x5, x6, x13 => if x13 < (x6.length : Int) then (if 0 ≤ x13 then (foghornlaw11_FeedbackEchoes.l0 k x5 (x6.set (x13 : Int).toNat ((rdOf (0, 0) x6 x13).2, (rdOf (0, 0) x6 x13).1)) (wrap64 (x13 + 1))) else (none)) else ((foghornref11_Echo.f k x5 x6).bind fun bt282 => ((feedback_Echo.f k x5 x6).bind fun bt286 => (if bt286.2 = bt282.2 then ((foghornref11_Same.f k bt286.1 bt282.1).bind fun t290 => (some t290)) else (some false))))
end
def foghornlaw11_FeedbackEchoes.f (k : Nat) (l0 : List (S174)) (l1 : List (S146)) : Option (Bool) := (foghornlaw11_taps.f k l0).bind fun t244 => ((foghornlaw11_numbers.f k l1).bind fun t247 => ((foghornref11_Echo.f k t244 t247).bind fun bt250 => ((feedback_Echo.f k t244 t247).bind fun bt254 => ((feedback_Echo.f k t244 t247).bind fun bt258 => ((feedback_Check.f k t244).bind fun t262 => ((foghornref11_Check.f k t244).bind fun t263 => (if t262 = t263 then (if bt254.2 = bt250.2 then (if bt258.2 = bt250.2 then ((foghornlaw11_fresh.f k bt254.1 bt258.1 bt250.1).bind fun t264 => (if t264 = true then (if (wrap64 ((l0.length : Int) + 1)) = (t244.length : Int) + 1 then ((some (t244 ++ [(4651892959631900672, 0)] : List (Nat × Nat))).bind fun y265 => (if 0 ≤ (l0.length : Int) then (if (l0.length : Int) < (y265.length : Int) then (if (!((FloatKind.f64.format.order ((rdOf (0, 0) y265 (l0.length : Int)).1) 4651892959631900672 == some .eq) && (FloatKind.f64.format.order ((rdOf (0, 0) y265 (l0.length : Int)).2) 0 == some .eq))) = true then (foghornlaw11_FeedbackEchoes.j0 k t244 t247 true) else (if (wrap64 ((l1.length : Int) + 1)) = (t247.length : Int) + 1 then ((some (t247 ++ [(4651892959631900672, 0)] : List (Nat × Nat))).bind fun y270 => (if 0 ≤ (l1.length : Int) then (if (l1.length : Int) < (y270.length : Int) then (if (!((FloatKind.f64.format.order ((rdOf (0, 0) y270 (l1.length : Int)).1) 4651892959631900672 == some .eq) && (FloatKind.f64.format.order ((rdOf (0, 0) y270 (l1.length : Int)).2) 0 == some .eq))) = true then (foghornlaw11_FeedbackEchoes.j0 k t244 t247 true) else ((foghornlaw11_numbers.f k l1).bind fun t275 => ((foghornref11_Same.f k t247 t275).bind fun t278 => (foghornlaw11_FeedbackEchoes.j0 k t244 t247 (!t278))))) else (none)) else (none))) else (none))) else (none)) else (none))) else (none)) else (foghornlaw11_FeedbackEchoes.j0 k t244 t247 true))) else (foghornlaw11_FeedbackEchoes.j0 k t244 t247 true)) else (foghornlaw11_FeedbackEchoes.j0 k t244 t247 true)) else (foghornlaw11_FeedbackEchoes.j0 k t244 t247 true))))))))
theorem foghornlaw11_FeedbackEchoes.mono_l : ∀ k, (∀ y0 y1 y2, LeO (foghornlaw11_FeedbackEchoes.j0 k y0 y1 y2) (foghornlaw11_FeedbackEchoes.j0 (k + 1) y0 y1 y2)) ∧ (∀ y0 y1 y2, LeO (foghornlaw11_FeedbackEchoes.l0 k y0 y1 y2) (foghornlaw11_FeedbackEchoes.l0 (k + 1) y0 y1 y2))
  | 0 => ⟨fun _ _ _ r h => by simp [foghornlaw11_FeedbackEchoes.j0] at h, fun _ _ _ r h => by simp [foghornlaw11_FeedbackEchoes.l0] at h⟩
  | k + 1 => by
    obtain ⟨ih0, ih1⟩ := foghornlaw11_FeedbackEchoes.mono_l k
    refine ⟨?_, ?_⟩
    · intro y0 y1 y2
      unfold foghornlaw11_FeedbackEchoes.j0
      repeat' first
      | (with_reducible exact ih0 _ _ _)
      | (with_reducible exact ih1 _ _ _)
      | (with_reducible exact feedback_Check.mono _ _)
      | (with_reducible exact feedback_Echo.mono _ _ _)
      | (with_reducible exact foghornlaw11_fresh.mono _ _ _ _)
      | (with_reducible exact foghornlaw11_numbers.mono _ _)
      | (with_reducible exact foghornlaw11_taps.mono _ _)
      | (with_reducible exact foghornref11_Check.mono _ _)
      | (with_reducible exact foghornref11_Echo.mono _ _ _)
      | (with_reducible exact foghornref11_Same.mono _ _ _)
      | (with_reducible exact LeO.refl _)
      | (with_reducible exact LeO.none _)
      | (with_reducible refine LeO.ite ?_ ?_)
      | (with_reducible refine LeO.bind ?_ (fun _ => ?_))
      | exact ih0 _ _ _
      | exact ih1 _ _ _
      | exact feedback_Check.mono _ _
      | exact feedback_Echo.mono _ _ _
      | exact foghornlaw11_fresh.mono _ _ _ _
      | exact foghornlaw11_numbers.mono _ _
      | exact foghornlaw11_taps.mono _ _
      | exact foghornref11_Check.mono _ _
      | exact foghornref11_Echo.mono _ _ _
      | exact foghornref11_Same.mono _ _ _
      | exact LeO.none _
      | refine LeO.ite ?_ ?_
      | refine LeO.bind ?_ (fun _ => ?_)
    · intro y0 y1 y2
      unfold foghornlaw11_FeedbackEchoes.l0
      repeat' first
      | (with_reducible exact ih0 _ _ _)
      | (with_reducible exact ih1 _ _ _)
      | (with_reducible exact feedback_Check.mono _ _)
      | (with_reducible exact feedback_Echo.mono _ _ _)
      | (with_reducible exact foghornlaw11_fresh.mono _ _ _ _)
      | (with_reducible exact foghornlaw11_numbers.mono _ _)
      | (with_reducible exact foghornlaw11_taps.mono _ _)
      | (with_reducible exact foghornref11_Check.mono _ _)
      | (with_reducible exact foghornref11_Echo.mono _ _ _)
      | (with_reducible exact foghornref11_Same.mono _ _ _)
      | (with_reducible exact LeO.refl _)
      | (with_reducible exact LeO.none _)
      | (with_reducible refine LeO.ite ?_ ?_)
      | (with_reducible refine LeO.bind ?_ (fun _ => ?_))
      | exact ih0 _ _ _
      | exact ih1 _ _ _
      | exact feedback_Check.mono _ _
      | exact feedback_Echo.mono _ _ _
      | exact foghornlaw11_fresh.mono _ _ _ _
      | exact foghornlaw11_numbers.mono _ _
      | exact foghornlaw11_taps.mono _ _
      | exact foghornref11_Check.mono _ _
      | exact foghornref11_Echo.mono _ _ _
      | exact foghornref11_Same.mono _ _ _
      | exact LeO.none _
      | refine LeO.ite ?_ ?_
      | refine LeO.bind ?_ (fun _ => ?_)
theorem foghornlaw11_FeedbackEchoes.mono : ∀ a0 a1 k, LeO (foghornlaw11_FeedbackEchoes.f k a0 a1) (foghornlaw11_FeedbackEchoes.f (k + 1) a0 a1) := by
  intro a0 a1 k
  obtain ⟨ih0, ih1⟩ := foghornlaw11_FeedbackEchoes.mono_l k
  unfold foghornlaw11_FeedbackEchoes.f
  repeat' first
      | (with_reducible exact ih0 _ _ _)
      | (with_reducible exact ih1 _ _ _)
      | (with_reducible exact feedback_Check.mono _ _)
      | (with_reducible exact feedback_Echo.mono _ _ _)
      | (with_reducible exact foghornlaw11_fresh.mono _ _ _ _)
      | (with_reducible exact foghornlaw11_numbers.mono _ _)
      | (with_reducible exact foghornlaw11_taps.mono _ _)
      | (with_reducible exact foghornref11_Check.mono _ _)
      | (with_reducible exact foghornref11_Echo.mono _ _ _)
      | (with_reducible exact foghornref11_Same.mono _ _ _)
      | (with_reducible exact LeO.refl _)
      | (with_reducible exact LeO.none _)
      | (with_reducible refine LeO.ite ?_ ?_)
      | (with_reducible refine LeO.bind ?_ (fun _ => ?_))
      | exact ih0 _ _ _
      | exact ih1 _ _ _
      | exact feedback_Check.mono _ _
      | exact feedback_Echo.mono _ _ _
      | exact foghornlaw11_fresh.mono _ _ _ _
      | exact foghornlaw11_numbers.mono _ _
      | exact foghornlaw11_taps.mono _ _
      | exact foghornref11_Check.mono _ _
      | exact foghornref11_Echo.mono _ _ _
      | exact foghornref11_Same.mono _ _ _
      | exact LeO.none _
      | refine LeO.ite ?_ ?_
      | refine LeO.bind ?_ (fun _ => ?_)
def foghornlaw11_FeedbackEchoes.T11 : Bool × List (List Nat × List Nat) := (true, [([], []), ([], []), ([], []), ([], []), ([2, 3], [2, 3]), ([4], [4]), ([5], [5]), ([], []), ([], []), ([7, 8], [7, 8]), ([9], [9]), ([10], [10]), ([6, 11], [6, 11]), ([0, 1, 0, 1, 2, 3, 4, 5, 6, 7, 8, 9, 10, 11, 12], [0, 1]), ([13, 12, 0, 1, 2, 3, 4, 5, 6, 7, 8, 9, 10, 11, 12], [12, 13])])
def foghornlaw11_FeedbackEchoes.B11 : List Nat := [0, 0, 0, 0, 12, 28, 60, 0, 0, 384, 896, 1920, 4092, 8191, 16383]
theorem foghornlaw11_FeedbackEchoes.tab11 : rtab .any (opsOf Try.f3 11) = foghornlaw11_FeedbackEchoes.T11 := by kernel_rfl
theorem foghornlaw11_FeedbackEchoes.bits11 : waitsOk foghornlaw11_FeedbackEchoes.T11.2 foghornlaw11_FeedbackEchoes.B11 = true := by kernel_rfl
/-- THE ONE PURE STATEMENT of foghornlaw11_FeedbackEchoes: ours. -/
def foghornlaw11_FeedbackEchoes.Pure : Prop := ∀ (l0 : List (S174)) (l1 : List (S146)), (l0.length * 24 ≤ 140737488351232 ∧ ∀ x ∈ l0, (fun y_ : S174 => ((Lit.int .i64 y_.f0).wf = true) ∧ ((Lit.int .i64 y_.f1).wf = true) ∧ (True)) x) → (l1.length * 12 ≤ 140737488351232 ∧ ∀ x ∈ l1, (fun y_ : S146 => ((Lit.int .i32 y_.f0).wf = true) ∧ ((Lit.int .i32 y_.f1).wf = true) ∧ (True)) x) → ∃ k, foghornlaw11_FeedbackEchoes.f k l0 l1 = some true

/-! ### points_of: function 127 -/
def pts_axis (edge word : Int) : Option Nat := (bits_Ungray.f 9 word).bind fun p => some (floatOfInt .f64 (wrap64 (wrap64 (2 * p.1) - edge)))
def pts_high (edge most a : Int) : Int := if most < (if a < wrap64 (-a) then wrap64 (-a) else a) then most else edge
def pts_crf (edge most : Int) : Nat → Int → Int → Option (Nat × Nat)
  | 0, _, _ => none
  | k + 1, a, l => if l ≤ pts_high edge most a then some (floatOfInt .f64 a, floatOfInt .f64 (wrap64 (wrap64 (2 * l) - pts_high edge most a))) else pts_crf edge most k (wrap64 (a + 2)) (wrap64 (l - wrap64 (pts_high edge most a + 1)))
def pts_sqf (d m edge label : Int) : Option (Nat × Nat) := (pts_axis edge (label / d)).bind fun p => (pts_axis edge (Go.bits .and .i64 label m)).bind fun q => some (p, q)
def pts_crF (edge most label : Int) : Option (Nat × Nat) := pts_crf edge most 40 (wrap64 (-edge)) label
def pts_spec (size : Int) : Option (Int × Int × (Int → Option (Nat × Nat))) :=
  if size = 4 then some (2, 1, pts_sqf 2 1 1) else if size = 16 then some (4, 3, pts_sqf 4 3 3) else if size = 32 then some (5, 5, pts_crF 5 3) else if size = 64 then some (6, 7, pts_sqf 8 7 7) else if size = 128 then some (7, 11, pts_crF 11 7) else if size = 256 then some (8, 15, pts_sqf 16 15 15) else none
def points_of.f (a0 : Int) : Option (Int) := none

/-! ### points_All: function 56 -/
def pts_all (F : Int → Option (Nat × Nat)) : Nat → Option (List (Nat × Nat))
  | 0 => some []
  | n + 1 => (pts_all F n).bind fun l => (F (n : Int)).bind fun r => some (l ++ [r])
def points_All.f (a0 : Int) : Option (List (Nat × Nat) × Int) := match pts_spec a0 with
  | none => some ([], 1)
  | some x => (pts_all x.2.2 a0.toNat).bind fun l => some (l, 0)

/-! ### math_Inf: function 76 -/
def math_Inf.f (a0 : Int) : Option (Nat) := if a0 ≥ 0 then (some 9218868437227405312) else (some 18442240474082181120)

/-! ### math_Max: function 114 -/
def math_Max.f (a0 : Nat) (a1 : Nat) : Option (Nat) := some (pickF false .gt a0 a1)

/-! ### math_Min: function 115 -/
def math_Min.f (a0 : Nat) (a1 : Nat) : Option (Nat) := some (pickF true .lt a0 a1)

/-! ### math_Ceil: function 116 -/
def math_Ceil.f (a0 : Nat) : Option (Nat) := (integF .up a0).bind fun t487 => (some t487)

/-! ### slice_Axis: function 47 -/
def slice_Axis.j0 : Nat → Nat → Int → Bool → Option (Int × Int)
  | 0, _, _, _ => none
  | k + 1, x0, x1, x21 => if x21 = true then (some (0, 1)) else ((math_Min.f x0 (floatOfInt .f64 x1)).bind fun t489 => ((math_Max.f (Op.negFloat .f64 (floatOfInt .f64 x1)) t489).bind fun t490 => ((math_Ceil.f t490).bind fun t491 => ((floatToIntVal .f64 t491 .i64).bind fun t492 => (if (Int.tmod t492 2) = 0 then (some (mx (wrap64 (t492 - 1)) (wrap64 (-x1)), 0)) else (some (mx t492 (wrap64 (-x1)), 0)))))))
def slice_Axis.f (k : Nat) (a0 : Nat) (a1 : Int) : Option (Int × Int) := if a1 < 1 then (slice_Axis.j0 k a0 a1 true) else (if a1 > 15 then (slice_Axis.j0 k a0 a1 true) else (if (Int.tmod a1 2) = 0 then (slice_Axis.j0 k a0 a1 true) else ((math_IsNaN.f a0).bind fun t488 => (slice_Axis.j0 k a0 a1 t488))))
theorem slice_Axis.mono_l : ∀ k, (∀ y0 y1 y2, LeO (slice_Axis.j0 k y0 y1 y2) (slice_Axis.j0 (k + 1) y0 y1 y2))
  | 0 => fun _ _ _ r h => by simp [slice_Axis.j0] at h
  | k + 1 => by
    have ih0 := slice_Axis.mono_l k
    · intro y0 y1 y2
      unfold slice_Axis.j0
      repeat' first
      | (with_reducible exact ih0 _ _ _)
      | (with_reducible exact LeO.refl _)
      | (with_reducible exact LeO.none _)
      | (with_reducible refine LeO.ite ?_ ?_)
      | (with_reducible refine LeO.bind ?_ (fun _ => ?_))
      | exact ih0 _ _ _
      | exact LeO.none _
      | refine LeO.ite ?_ ?_
      | refine LeO.bind ?_ (fun _ => ?_)
theorem slice_Axis.mono : ∀ a0 a1 k, LeO (slice_Axis.f k a0 a1) (slice_Axis.f (k + 1) a0 a1) := by
  intro a0 a1 k
  have ih0 := slice_Axis.mono_l k
  unfold slice_Axis.f
  repeat' first
      | (with_reducible exact ih0 _ _ _)
      | (with_reducible exact LeO.refl _)
      | (with_reducible exact LeO.none _)
      | (with_reducible refine LeO.ite ?_ ?_)
      | (with_reducible refine LeO.bind ?_ (fun _ => ?_))
      | exact ih0 _ _ _
      | exact LeO.none _
      | refine LeO.ite ?_ ?_
      | refine LeO.bind ?_ (fun _ => ?_)

/-! ### points_Edge: function 118 -/
def points_Edge.f (a0 : Int) : Option (Int × Int) := match pts_spec a0 with
  | none => some (0, 1)
  | some x => some (x.2.1, 0)

/-! ### slice_nan: function 119 -/
def slice_nan.f (a0 : (Nat × Nat)) : Option (Bool) := (math_IsNaN.f a0.1).bind fun t497 => (if t497 = true then (some true) else ((math_IsNaN.f a0.2).bind fun t498 => (some t498)))

/-! ### slice_cut: function 120 -/
def slice_cut.f (a0 : (Nat × Nat)) (a1 : Int) : Option ((Nat × Nat)) := (math_Min.f a0.1 (floatOfInt .f64 a1)).bind fun t499 => ((math_Max.f (Op.negFloat .f64 (floatOfInt .f64 a1)) t499).bind fun t500 => ((math_Min.f a0.2 (floatOfInt .f64 a1)).bind fun t501 => ((math_Max.f (Op.negFloat .f64 (floatOfInt .f64 a1)) t501).bind fun t502 => (some (t500, t502)))))

/-! ### slice_gap: function 123 -/
def slice_gap.f (a0 : (Nat × Nat)) (a1 : (Nat × Nat)) : Option (Nat) := (floatBits .sub .f64 a0.1 a1.1).bind fun t563 => ((floatBits .sub .f64 a0.2 a1.2).bind fun t564 => ((floatBits .mul .f64 t563 t563).bind fun t565 => ((floatBits .mul .f64 t564 t564).bind fun t566 => ((floatBits .add .f64 t565 t566).bind fun t567 => (some t567)))))

/-! ### points_Label: function 176 -/
def points_Label.l0 : Nat → (Nat × Nat) → List (Nat × Nat) → Int → Int → Option (Int × Int)
  | 0, _, _, _, _ => none
  | k + 1, x1, x18, x19, x20 => if x20 < x19 then (if 0 ≤ x20 then (if x20 < (x18.length : Int) then (if ((FloatKind.f64.format.order ((rdOf (0, 0) x18 x20).1) x1.1 == some .eq) && (FloatKind.f64.format.order ((rdOf (0, 0) x18 x20).2) x1.2 == some .eq)) = true then (some (x20, 0)) else (points_Label.l0 k x1 x18 x19 (wrap64 (x20 + 1)))) else (none)) else (none)) else (some (0, 6))
def points_Label.f (k : Nat) (a0 : Int) (a1 : (Nat × Nat)) : Option (Int × Int) := (points_All.f a0).bind fun bt613 => (if bt613.2 = 0 then (points_Label.l0 k a1 bt613.1 (bt613.1.length : Int) 0) else (some (0, bt613.2)))
theorem points_Label.mono_l : ∀ k, (∀ y0 y1 y2 y3, LeO (points_Label.l0 k y0 y1 y2 y3) (points_Label.l0 (k + 1) y0 y1 y2 y3))
  | 0 => fun _ _ _ _ r h => by simp [points_Label.l0] at h
  | k + 1 => by
    have ih0 := points_Label.mono_l k
    · intro y0 y1 y2 y3
      unfold points_Label.l0
      repeat' first
      | (with_reducible exact ih0 _ _ _ _)
      | (with_reducible exact LeO.refl _)
      | (with_reducible exact LeO.none _)
      | (with_reducible refine LeO.ite ?_ ?_)
      | (with_reducible refine LeO.bind ?_ (fun _ => ?_))
      | exact ih0 _ _ _ _
      | exact LeO.none _
      | refine LeO.ite ?_ ?_
      | refine LeO.bind ?_ (fun _ => ?_)
theorem points_Label.mono : ∀ a0 a1 k, LeO (points_Label.f k a0 a1) (points_Label.f (k + 1) a0 a1) := by
  intro a0 a1 k
  have ih0 := points_Label.mono_l k
  unfold points_Label.f
  repeat' first
      | (with_reducible exact ih0 _ _ _ _)
      | (with_reducible exact LeO.refl _)
      | (with_reducible exact LeO.none _)
      | (with_reducible refine LeO.ite ?_ ?_)
      | (with_reducible refine LeO.bind ?_ (fun _ => ?_))
      | exact ih0 _ _ _ _
      | exact LeO.none _
      | refine LeO.ite ?_ ?_
      | refine LeO.bind ?_ (fun _ => ?_)

/-! ### slice_axes: function 166 -/
def slice_axes.f (k : Nat) (a0 : Int) (a1 : Int) (a2 : (Nat × Nat)) : Option (Int × (Nat × Nat) × Bool) := (slice_Axis.f k a2.1 a1).bind fun bt619 => ((slice_Axis.f k a2.2 a1).bind fun bt621 => ((points_Label.f k a0 (floatOfInt .f64 bt619.1, floatOfInt .f64 bt621.1)).bind fun bt623 => (some (bt623.1, (floatOfInt .f64 bt619.1, floatOfInt .f64 bt621.1), false))))
theorem slice_axes.mono : ∀ a0 a1 a2 k, LeO (slice_axes.f k a0 a1 a2) (slice_axes.f (k + 1) a0 a1 a2) := by
  intro a0 a1 a2 k
  unfold slice_axes.f
  repeat' first
      | (with_reducible exact points_Label.mono _ _ _)
      | (with_reducible exact slice_Axis.mono _ _ _)
      | (with_reducible exact LeO.refl _)
      | (with_reducible exact LeO.none _)
      | (with_reducible refine LeO.ite ?_ ?_)
      | (with_reducible refine LeO.bind ?_ (fun _ => ?_))
      | exact points_Label.mono _ _ _
      | exact slice_Axis.mono _ _ _
      | exact LeO.none _
      | refine LeO.ite ?_ ?_
      | refine LeO.bind ?_ (fun _ => ?_)

/-! ### slice_nearest: function 167 -/
def slice_nearest.l0 : Nat → (Nat × Nat) → Nat → List (Nat × Nat) → Int → Int → Int → (Nat × Nat) → Bool → Option (Int × (Nat × Nat) × Bool)
  | 0, _, _, _, _, _, _, _, _ => none
  | k + 1, x2, x10, x24, x25, x26, x633000, x633001, x633002 => if x26 < x25 then (if 0 ≤ x26 then (if x26 < (x24.length : Int) then ((slice_gap.f x2 (rdOf (0, 0) x24 x26)).bind fun t634 => (if (FloatKind.f64.format.order t634 x10 == some .lt) = true then (slice_nearest.l0 k x2 t634 x24 x25 (wrap64 (x26 + 1)) x26 (rdOf (0, 0) x24 x26) false) else (slice_nearest.l0 k x2 x10 x24 x25 (wrap64 (x26 + 1)) x633000 x633001 x633002))) else (none)) else (none)) else (some (x633000, x633001, x633002))
def slice_nearest.f (k : Nat) (a0 : Int) (a1 : Int) (a2 : (Nat × Nat)) : Option (Int × (Nat × Nat) × Bool) := (points_All.f a0).bind fun bt626 => ((slice_cut.f a2 a1).bind fun t630 => ((math_Inf.f 1).bind fun t631 => (slice_nearest.l0 k t630 t631 bt626.1 (bt626.1.length : Int) 0 0 (0, 0) false)))
theorem slice_nearest.mono_l : ∀ k, (∀ y0 y1 y2 y3 y4 y5 y6 y7, LeO (slice_nearest.l0 k y0 y1 y2 y3 y4 y5 y6 y7) (slice_nearest.l0 (k + 1) y0 y1 y2 y3 y4 y5 y6 y7))
  | 0 => fun _ _ _ _ _ _ _ _ r h => by simp [slice_nearest.l0] at h
  | k + 1 => by
    have ih0 := slice_nearest.mono_l k
    · intro y0 y1 y2 y3 y4 y5 y6 y7
      unfold slice_nearest.l0
      repeat' first
      | (with_reducible exact ih0 _ _ _ _ _ _ _ _)
      | (with_reducible exact LeO.refl _)
      | (with_reducible exact LeO.none _)
      | (with_reducible refine LeO.ite ?_ ?_)
      | (with_reducible refine LeO.bind ?_ (fun _ => ?_))
      | exact ih0 _ _ _ _ _ _ _ _
      | exact LeO.none _
      | refine LeO.ite ?_ ?_
      | refine LeO.bind ?_ (fun _ => ?_)
theorem slice_nearest.mono : ∀ a0 a1 a2 k, LeO (slice_nearest.f k a0 a1 a2) (slice_nearest.f (k + 1) a0 a1 a2) := by
  intro a0 a1 a2 k
  have ih0 := slice_nearest.mono_l k
  unfold slice_nearest.f
  repeat' first
      | (with_reducible exact ih0 _ _ _ _ _ _ _ _)
      | (with_reducible exact LeO.refl _)
      | (with_reducible exact LeO.none _)
      | (with_reducible refine LeO.ite ?_ ?_)
      | (with_reducible refine LeO.bind ?_ (fun _ => ?_))
      | exact ih0 _ _ _ _ _ _ _ _
      | exact LeO.none _
      | refine LeO.ite ?_ ?_
      | refine LeO.bind ?_ (fun _ => ?_)

/-! ### slice_ways: function 154 -/
def slice_ways.f : Option Int := none

/-! ### slice_decide: function 126 -/
def slice_decide.f (k : Nat) (a0 : Int) (a1 : Int) (a2 : (Nat × Nat)) : Option (Int × (Nat × Nat) × Bool) :=
  (slice_nan.f a2).bind fun n => if n = true then some (0, (0, 0), true) else (math_IsInf.f a2.1 0).bind fun i => if i = true then some (0, (0, 0), true) else (math_IsInf.f a2.2 0).bind fun j => if j = true then some (0, (0, 0), true) else
    if a0 = 32 ∨ a0 = 128 then slice_nearest.f k a0 a1 a2 else if a0 = 4 ∨ a0 = 16 ∨ a0 = 64 ∨ a0 = 256 then slice_axes.f k a0 a1 a2 else none
theorem slice_decide.mono : ∀ a0 a1 a2 k, LeO (slice_decide.f k a0 a1 a2) (slice_decide.f (k + 1) a0 a1 a2) := fun a0 a1 a2 k =>
  LeO.bind (LeO.refl _) fun _ => LeO.ite (LeO.refl _) (LeO.bind (LeO.refl _) fun _ => LeO.ite (LeO.refl _) (LeO.bind (LeO.refl _) fun _ => LeO.ite (LeO.refl _) (LeO.ite (slice_nearest.mono a0 a1 a2 k) (LeO.ite (slice_axes.mono a0 a1 a2 k) (LeO.refl _)))))

/-! ### slice_Decide: function 53 -/
def slice_Decide.f (k : Nat) (a0 : Int) (a1 : (Nat × Nat)) : Option (Int × (Nat × Nat) × Bool × Int) := (points_Edge.f a0).bind fun bt636 => (if bt636.2 = 0 then ((slice_decide.f k a0 bt636.1 a1).bind fun bt638 => (some (bt638.1, bt638.2.1, bt638.2.2, 0))) else (some (0, (0, 0), false, 1)))
theorem slice_Decide.mono : ∀ a0 a1 k, LeO (slice_Decide.f k a0 a1) (slice_Decide.f (k + 1) a0 a1) := by
  intro a0 a1 k
  unfold slice_Decide.f
  repeat' first
      | (with_reducible exact slice_decide.mono _ _ _ _)
      | (with_reducible exact LeO.refl _)
      | (with_reducible exact LeO.none _)
      | (with_reducible refine LeO.ite ?_ ?_)
      | (with_reducible refine LeO.bind ?_ (fun _ => ?_))
      | exact slice_decide.mono _ _ _ _
      | exact LeO.none _
      | refine LeO.ite ?_ ?_
      | refine LeO.bind ?_ (fun _ => ?_)

/-! ### grid_may: function 158 -/
def grid_may.f (a0_0 : (Nat × Nat)) (a0_1 : Bool) : Option (Bool) := if a0_1 = true then (some ((FloatKind.f64.format.order a0_0.1 0 == some .eq) && (FloatKind.f64.format.order a0_0.2 0 == some .eq))) else ((grid_On.f a0_0.1).bind fun t660 => (if t660 = true then ((grid_On.f a0_0.2).bind fun t661 => (some t661)) else (some false)))

/-! ### grid_Check: function 129 -/
def grid_Check.l0 : Nat → List (S101) → Int → Int → Option (Int × Int)
  | 0, _, _, _ => none
  | k + 1, x9, x10, x11 => if x11 < x10 then (if 0 ≤ x11 then (if x11 < (x9.length : Int) then ((grid_may.f ((rd_T101 x9 x11).f0) ((rd_T101 x9 x11).f1)).bind fun t664 => (if t664 = true then (grid_Check.l0 k x9 x10 (wrap64 (x11 + 1))) else (some (x11, 7)))) else (none)) else (none)) else (some (0, 0))
def grid_Check.f (k : Nat) (l0 : List (S101)) : Option (Int × Int) := if (l0.length : Int) > 65536 then (some (0, 1)) else (grid_Check.l0 k l0 (l0.length : Int) 0)
theorem grid_Check.mono_l : ∀ k, (∀ y0 y1 y2, LeO (grid_Check.l0 k y0 y1 y2) (grid_Check.l0 (k + 1) y0 y1 y2))
  | 0 => fun _ _ _ r h => by simp [grid_Check.l0] at h
  | k + 1 => by
    have ih0 := grid_Check.mono_l k
    · intro y0 y1 y2
      unfold grid_Check.l0
      repeat' first
      | (with_reducible exact ih0 _ _ _)
      | (with_reducible exact LeO.refl _)
      | (with_reducible exact LeO.none _)
      | (with_reducible refine LeO.ite ?_ ?_)
      | (with_reducible refine LeO.bind ?_ (fun _ => ?_))
      | exact ih0 _ _ _
      | exact LeO.none _
      | refine LeO.ite ?_ ?_
      | refine LeO.bind ?_ (fun _ => ?_)
theorem grid_Check.mono : ∀ a0 k, LeO (grid_Check.f k a0) (grid_Check.f (k + 1) a0) := by
  intro a0 k
  have ih0 := grid_Check.mono_l k
  unfold grid_Check.f
  repeat' first
      | (with_reducible exact ih0 _ _ _)
      | (with_reducible exact LeO.refl _)
      | (with_reducible exact LeO.none _)
      | (with_reducible refine LeO.ite ?_ ?_)
      | (with_reducible refine LeO.bind ?_ (fun _ => ?_))
      | exact ih0 _ _ _
      | exact LeO.none _
      | refine LeO.ite ?_ ?_
      | refine LeO.bind ?_ (fun _ => ?_)

/-! ### foghornlaw11_samples: function 80 -/
def foghornlaw11_samples.l0 : Nat → List (S146) → List (S101) → Int → Option ((List (S101)))
  | 0, _, _, _ => none
  | k + 1, x0, x3, x4 => if x4 < (x0.length : Int) then (if 0 ≤ x4 then ((floatBits .quo .f64 (floatOfInt .f64 ((rd_T146 x0 x4).f0)) 4661225614328463360).bind fun t973 => ((floatBits .quo .f64 (floatOfInt .f64 ((rd_T146 x0 x4).f1)) 4661225614328463360).bind fun t975 => (if x3.length < 5864062014805 then (foghornlaw11_samples.l0 k x0 (x3 ++ [(⟨(t973, t975), (rd_T146 x0 x4).f2⟩ : S101)]) (wrap64 (x4 + 1))) else (none)))) else (none)) else (if x3.length < 5864062014805 then (if (x3.length : Int) ≤ ((x3 ++ [(⟨(4651892959631900672, 0), false⟩ : S101)]).length : Int) then (some (x3)) else (none)) else (none))
def foghornlaw11_samples.f (k : Nat) (l0 : List (S146)) : Option ((List (S101))) := foghornlaw11_samples.l0 k l0 ([] : List (S101)) 0
theorem foghornlaw11_samples.mono_l : ∀ k, (∀ y0 y1 y2, LeO (foghornlaw11_samples.l0 k y0 y1 y2) (foghornlaw11_samples.l0 (k + 1) y0 y1 y2))
  | 0 => fun _ _ _ r h => by simp [foghornlaw11_samples.l0] at h
  | k + 1 => by
    have ih0 := foghornlaw11_samples.mono_l k
    · intro y0 y1 y2
      unfold foghornlaw11_samples.l0
      repeat' first
      | (with_reducible exact ih0 _ _ _)
      | (with_reducible exact LeO.refl _)
      | (with_reducible exact LeO.none _)
      | (with_reducible refine LeO.ite ?_ ?_)
      | (with_reducible refine LeO.bind ?_ (fun _ => ?_))
      | exact ih0 _ _ _
      | exact LeO.none _
      | refine LeO.ite ?_ ?_
      | refine LeO.bind ?_ (fun _ => ?_)
theorem foghornlaw11_samples.mono : ∀ a0 k, LeO (foghornlaw11_samples.f k a0) (foghornlaw11_samples.f (k + 1) a0) := by
  intro a0 k
  have ih0 := foghornlaw11_samples.mono_l k
  unfold foghornlaw11_samples.f
  repeat' first
      | (with_reducible exact ih0 _ _ _)
      | (with_reducible exact LeO.refl _)
      | (with_reducible exact LeO.none _)
      | (with_reducible refine LeO.ite ?_ ?_)
      | (with_reducible refine LeO.bind ?_ (fun _ => ?_))
      | exact ih0 _ _ _
      | exact LeO.none _
      | refine LeO.ite ?_ ?_
      | refine LeO.bind ?_ (fun _ => ?_)
def foghornlaw11_samples.T5 : Bool × List (List Nat × List Nat) := (true, [([], []), ([], []), ([], []), ([1, 2], [1, 2]), ([3], [3]), ([4], [4]), ([5], [5]), ([6], [6]), ([], []), ([], []), ([8, 9], [8, 9]), ([10], [10]), ([11], [11]), ([12], [12]), ([13], [13]), ([7, 14], [7, 14]), ([], []), ([], []), ([16, 17], [16, 17]), ([18], [18]), ([19], [19]), ([15, 20], [15, 20]), ([21], [21]), ([0, 22], [0, 22]), ([23, 23, 0, 1, 2, 3, 4, 5, 6, 7, 8, 9, 10, 11, 12, 13, 14, 15, 16, 17, 18, 19, 20, 21, 22, 23], [0, 23])])
def foghornlaw11_samples.B5 : List Nat := [0, 0, 0, 6, 14, 30, 62, 126, 0, 0, 768, 1792, 3840, 7936, 16128, 32766, 0, 0, 196608, 458752, 983040, 2097150, 4194302, 8388607, 16777215]
theorem foghornlaw11_samples.tab5 : rtab .any (opsOf Try.f80 5) = foghornlaw11_samples.T5 := by kernel_rfl
theorem foghornlaw11_samples.bits5 : waitsOk foghornlaw11_samples.T5.2 foghornlaw11_samples.B5 = true := by kernel_rfl

/-! ### feedback_run: function 139 -/
structure Lp where
  size : Int
  taps : List (Nat × Nat)
  past : List (Nat × Nat)
  n : Int
  pos : Int
  by_ : Nat
  q : Int
  some_ : Bool
  broken : Bool
  bare : Nat × Nat
def lp_ix (s : Lp) (j : Nat) : Nat := (Int.tmod (s.pos - j + 64) 64).toNat
def lp_acc (s : Lp) : Nat → Nat → Nat → Nat → Option (Nat × Nat)
  | 0, _, re, im => some (re, im)
  | d + 1, j, re, im => (feedback_times.f (s.taps.getD j (0, 0)) (s.past.getD (lp_ix s j) (0, 0))).bind fun t => (floatBits .sub .f64 re t.1).bind fun a => (floatBits .sub .f64 im t.2).bind fun b => lp_acc s d (j + 1) a b
def lp_step (k : Nat) (s : Lp) (x : S101) : Option (S83 × Int × Lp) :=
  (grid_Check.f k [x]).bind fun c => if c.2 = 0 then (if s.broken = true then some (⟨0, (0, 0), true⟩, 0, { s with broken := true }) else if x.f1 = true then some (⟨0, (0, 0), true⟩, 0, { s with broken := true }) else
    (lp_acc s (s.n.toNat - 1) 1 x.f0.1 x.f0.2).bind fun y => (feedback_turned.f k y s.q).bind fun z => (floatBits .quo .f64 z.1 s.by_).bind fun b1 => (floatBits .quo .f64 z.2 s.by_).bind fun b2 => (slice_Decide.f k s.size (b1, b2)).bind fun d =>
      some (⟨d.1, d.2.1, d.2.2.1⟩, d.2.2.2, { s with some_ := true, bare := (b1, b2), past := s.past.set s.pos.toNat d.2.1, pos := Int.tmod (s.pos + 1) 64 })) else some (⟨0, (0, 0), false⟩, c.2, s)
theorem lp_step.mono (s : Lp) (x : S101) (k : Nat) : LeO (lp_step k s x) (lp_step (k + 1) s x) :=
  LeO.bind (grid_Check.mono _ k) fun _ => LeO.ite (LeO.ite (LeO.refl _) (LeO.ite (LeO.refl _) (LeO.bind (LeO.refl _) fun _ => LeO.bind (feedback_turned.mono _ _ k) fun _ => LeO.bind (LeO.refl _) fun _ => LeO.bind (LeO.refl _) fun _ => LeO.bind (slice_Decide.mono _ _ k) fun _ => LeO.refl _))) (LeO.refl _)
def lp_zero (n : Int) (len : Int) : Lp := { size := n, taps := List.replicate 64 (0, 0), past := List.replicate 64 (0, 0), n := len, pos := 0, by_ := 0, q := 0, some_ := false, broken := false, bare := (0, 0) }
def lp_z (d : S83) (s : Lp) : Option (Nat × Nat) := if d.f2 = true then some (0, 0) else (floatBits .sub .f64 s.bare.1 d.f1.1).bind fun a => (floatBits .sub .f64 s.bare.2 d.f1.2).bind fun b => some (a, b)
def lp_run (k : Nat) : List S101 → Lp → List S83 → List (Nat × Nat) → Option (List S83 × List (Nat × Nat))
  | [], _, out, far => some (out, far)
  | x :: r, s, out, far => (lp_step k s x).bind fun t => (lp_z t.1 t.2.2).bind fun z => lp_run k r t.2.2 (out ++ [t.1]) (far ++ [z])
theorem lp_run.mono (k : Nat) : ∀ (l : List S101) (s : Lp) (o : List S83) (f : List (Nat × Nat)), LeO (lp_run k l s o f) (lp_run (k + 1) l s o f)
  | [], _, _, _ => LeO.refl _
  | x :: r, s, _, _ => LeO.bind (lp_step.mono s x k) fun _ => LeO.bind (LeO.refl _) fun _ => lp_run.mono k r _ _ _
def lp_from : List (Nat × Nat) → Nat → List (Nat × Nat) → List (Nat × Nat)
  | xs, _, [] => xs
  | xs, o, v :: r => lp_from (xs.set o v) (o + 1) r
def fb_new (k : Nat) (n : Int) (h : List (Nat × Nat)) : Option (Int × Lp) :=
  (points_Edge.f n).bind fun e => if e.2 = 0 then (feedback_Check.f k h).bind fun c => if c = 0 then (if 1 ≤ h.length ∧ h.length ≤ 64 then (feedback_first.f k (h.getD 0 (0, 0))).bind fun b => some (0, { lp_zero n h.length with taps := lp_from (List.replicate 64 (0, 0)) 0 h, by_ := b.1, q := b.2.1 }) else none) else some (c, lp_zero 0 0) else some (1, lp_zero 0 0)
theorem fb_new.mono (n : Int) (h : List (Nat × Nat)) (k : Nat) : LeO (fb_new k n h) (fb_new (k + 1) n h) :=
  LeO.bind (LeO.refl _) fun _ => LeO.ite (LeO.bind (feedback_Check.mono _ k) fun _ => LeO.ite (LeO.ite (LeO.bind (feedback_first.mono _ k) fun _ => LeO.refl _) (LeO.refl _)) (LeO.refl _)) (LeO.refl _)
def feedback_run.f (k : Nat) (a0 : Int) (l1 : List (Nat × Nat)) (l2 : List S101) : Option (List S83 × List (Nat × Nat) × Int) :=
  (fb_new k a0 l1).bind fun n => if n.1 = 0 then (grid_Check.f k l2).bind fun c => if c.2 = 0 then (if l2.length ≤ 65536 then (lp_run k l2 n.2 [] []).bind fun r => some (r.1, r.2, 0) else none) else some ([], [], c.2) else some ([], [], n.1)
theorem feedback_run.mono : ∀ a0 a1 a2 k, LeO (feedback_run.f k a0 a1 a2) (feedback_run.f (k + 1) a0 a1 a2) := fun a0 a1 a2 k =>
  LeO.bind (fb_new.mono a0 a1 k) fun _ => LeO.ite (LeO.bind (grid_Check.mono _ k) fun _ => LeO.ite (LeO.ite (LeO.bind (lp_run.mono k _ _ _ _) fun _ => LeO.refl _) (LeO.refl _)) (LeO.refl _)) (LeO.refl _)

/-! ### feedback_Run: function 92 -/
def feedback_Run.f (k : Nat) (a0 : Int) (l1 : List (Nat × Nat)) (l2 : List (S101)) : Option ((List (S83)) × Int) := (feedback_run.f k a0 l1 l2).bind fun bt1013 => (some (bt1013.1, bt1013.2.2))
theorem feedback_Run.mono : ∀ a0 a1 a2 k, LeO (feedback_Run.f k a0 a1 a2) (feedback_Run.f (k + 1) a0 a1 a2) := by
  intro a0 a1 a2 k
  unfold feedback_Run.f
  repeat' first
      | (with_reducible exact feedback_run.mono _ _ _ _)
      | (with_reducible exact LeO.refl _)
      | (with_reducible exact LeO.none _)
      | (with_reducible refine LeO.ite ?_ ?_)
      | (with_reducible refine LeO.bind ?_ (fun _ => ?_))
      | exact feedback_run.mono _ _ _ _
      | exact LeO.none _
      | refine LeO.ite ?_ ?_
      | refine LeO.bind ?_ (fun _ => ?_)

/-! ### foghornlaw11_awake: function 88 -/
def foghornlaw11_awake.f (k : Nat)  : Option (Bool) := (feedback_Run.f k 4 (([(4607182418800017408, 0), (4607182418800017408, 0)] : List (Nat × Nat))) (([(⟨(4607182418800017408, 4607182418800017408), false⟩ : S101), (⟨(4611686018427387904, 0), false⟩ : S101), (⟨(0, 13835058055282163712), false⟩ : S101)] : List (S101)))).bind fun bt1026 => (if bt1026.2 = 0 then (if (bt1026.1.length : Int) = 3 then (if 0 < (bt1026.1.length : Int) then (if ((FloatKind.f64.format.order (((rd_T83 bt1026.1 0).f1).1) 4607182418800017408 == some .eq) && (FloatKind.f64.format.order (((rd_T83 bt1026.1 0).f1).2) 4607182418800017408 == some .eq)) = true then (if 1 < (bt1026.1.length : Int) then (if ((FloatKind.f64.format.order (((rd_T83 bt1026.1 1).f1).1) 4607182418800017408 == some .eq) && (FloatKind.f64.format.order (((rd_T83 bt1026.1 1).f1).2) 13830554455654793216 == some .eq)) = true then (if 2 < (bt1026.1.length : Int) then (if ((FloatKind.f64.format.order (((rd_T83 bt1026.1 2).f1).1) 13830554455654793216 == some .eq) && (FloatKind.f64.format.order (((rd_T83 bt1026.1 2).f1).2) 13830554455654793216 == some .eq)) = true then (some (!((rd_T83 bt1026.1 2).f2))) else (some false)) else (none)) else (some false)) else (none)) else (some false)) else (none)) else (some false)) else (some false))
theorem foghornlaw11_awake.mono : ∀ k, LeO (foghornlaw11_awake.f k ) (foghornlaw11_awake.f (k + 1) ) := by
  intro  k
  unfold foghornlaw11_awake.f
  repeat' first
      | (with_reducible exact feedback_Run.mono _ _ _ _)
      | (with_reducible exact LeO.refl _)
      | (with_reducible exact LeO.none _)
      | (with_reducible refine LeO.ite ?_ ?_)
      | (with_reducible refine LeO.bind ?_ (fun _ => ?_))
      | exact feedback_Run.mono _ _ _ _
      | exact LeO.none _
      | refine LeO.ite ?_ ?_
      | refine LeO.bind ?_ (fun _ => ?_)

/-! ### foghornlaw11_may: function 90 -/
mutual
def foghornlaw11_may.l0 : Nat → List (S174) → List (Nat × Nat) → Int → Option (List (Nat × Nat))
  | 0, _, _, _ => none
  | k + 1, x2, x8, x9 => if x9 < (x2.length : Int) then (foghornlaw11_may.j1 k x2 x8 x9 (decide ((x8.length : Int) < 64))) else (foghornlaw11_may.j1 k x2 x8 x9 false)
def foghornlaw11_may.j1 : Nat → List (S174) → List (Nat × Nat) → Int → Bool → Option (List (Nat × Nat))
  | 0, _, _, _, _ => none
  | k + 1, x2, x8, x9, x33 => if x33 = true then (if 0 ≤ x9 then (if x9 < (x2.length : Int) then ((floatBits .quo .f64 (floatOfInt .f64 (Int.tmod ((rd_T174 x2 x9).f0) 65)) 4634204016564240384).bind fun t1047 => ((floatBits .quo .f64 (floatOfInt .f64 (Int.tmod ((rd_T174 x2 x9).f1) 65)) 4634204016564240384).bind fun t1049 => (if x8.length < 8796093022208 then ((some (x8 ++ [(t1047, t1049)] : List (Nat × Nat))).bind fun y1050 => ((foghornref11_Check.f k y1050).bind fun t1053 => (if t1053 = 0 then (foghornlaw11_may.l0 k x2 y1050 (wrap64 (x9 + 1))) else (if 0 ≤ (wrap64 ((y1050.length : Int) - 1)) then (if (wrap64 ((y1050.length : Int) - 1)) ≤ (y1050.length : Int) then (some (y1050.take ((wrap64 ((y1050.length : Int) - 1)) : Int).toNat)) else (none)) else (none))))) else (none)))) else (none)) else (none)) else (some x8)
end
def foghornlaw11_may.f (k : Nat) (a0 : Int) (a1 : Int) (l2 : List (S174)) : Option (List (Nat × Nat)) := (some (([4607182418800017408, 4602678819172646912, 4598175219545276416] : List Nat) : List Nat)).bind fun y1038 => (if 0 ≤ (Int.tmod (wrap64 ((Int.tmod a0 3) + 3)) 3) then (if (Int.tmod (wrap64 ((Int.tmod a0 3) + 3)) 3) < (y1038.length : Int) then ((foghornref11_Turn.f k (rdOf 0 y1038 (Int.tmod (wrap64 ((Int.tmod a0 3) + 3)) 3), 0) (Int.tmod (wrap64 ((Int.tmod a1 4) + 4)) 4)).bind fun t1042 => (foghornlaw11_may.l0 k l2 (([t1042] : List (Nat × Nat))) 0)) else (none)) else (none))
theorem foghornlaw11_may.mono_l : ∀ k, (∀ y0 y1 y2, LeO (foghornlaw11_may.l0 k y0 y1 y2) (foghornlaw11_may.l0 (k + 1) y0 y1 y2)) ∧ (∀ y0 y1 y2 y3, LeO (foghornlaw11_may.j1 k y0 y1 y2 y3) (foghornlaw11_may.j1 (k + 1) y0 y1 y2 y3))
  | 0 => ⟨fun _ _ _ r h => by simp [foghornlaw11_may.l0] at h, fun _ _ _ _ r h => by simp [foghornlaw11_may.j1] at h⟩
  | k + 1 => by
    obtain ⟨ih0, ih1⟩ := foghornlaw11_may.mono_l k
    refine ⟨?_, ?_⟩
    · intro y0 y1 y2
      unfold foghornlaw11_may.l0
      repeat' first
      | (with_reducible exact ih0 _ _ _)
      | (with_reducible exact ih1 _ _ _ _)
      | (with_reducible exact foghornref11_Check.mono _ _)
      | (with_reducible exact foghornref11_Turn.mono _ _ _)
      | (with_reducible exact LeO.refl _)
      | (with_reducible exact LeO.none _)
      | (with_reducible refine LeO.ite ?_ ?_)
      | (with_reducible refine LeO.bind ?_ (fun _ => ?_))
      | exact ih0 _ _ _
      | exact ih1 _ _ _ _
      | exact foghornref11_Check.mono _ _
      | exact foghornref11_Turn.mono _ _ _
      | exact LeO.none _
      | refine LeO.ite ?_ ?_
      | refine LeO.bind ?_ (fun _ => ?_)
    · intro y0 y1 y2 y3
      unfold foghornlaw11_may.j1
      repeat' first
      | (with_reducible exact ih0 _ _ _)
      | (with_reducible exact ih1 _ _ _ _)
      | (with_reducible exact foghornref11_Check.mono _ _)
      | (with_reducible exact foghornref11_Turn.mono _ _ _)
      | (with_reducible exact LeO.refl _)
      | (with_reducible exact LeO.none _)
      | (with_reducible refine LeO.ite ?_ ?_)
      | (with_reducible refine LeO.bind ?_ (fun _ => ?_))
      | exact ih0 _ _ _
      | exact ih1 _ _ _ _
      | exact foghornref11_Check.mono _ _
      | exact foghornref11_Turn.mono _ _ _
      | exact LeO.none _
      | refine LeO.ite ?_ ?_
      | refine LeO.bind ?_ (fun _ => ?_)
theorem foghornlaw11_may.mono : ∀ a0 a1 a2 k, LeO (foghornlaw11_may.f k a0 a1 a2) (foghornlaw11_may.f (k + 1) a0 a1 a2) := by
  intro a0 a1 a2 k
  obtain ⟨ih0, ih1⟩ := foghornlaw11_may.mono_l k
  unfold foghornlaw11_may.f
  repeat' first
      | (with_reducible exact ih0 _ _ _)
      | (with_reducible exact ih1 _ _ _ _)
      | (with_reducible exact foghornref11_Check.mono _ _)
      | (with_reducible exact foghornref11_Turn.mono _ _ _)
      | (with_reducible exact LeO.refl _)
      | (with_reducible exact LeO.none _)
      | (with_reducible refine LeO.ite ?_ ?_)
      | (with_reducible refine LeO.bind ?_ (fun _ => ?_))
      | exact ih0 _ _ _
      | exact ih1 _ _ _ _
      | exact foghornref11_Check.mono _ _
      | exact foghornref11_Turn.mono _ _ _
      | exact LeO.none _
      | refine LeO.ite ?_ ?_
      | refine LeO.bind ?_ (fun _ => ?_)
def foghornlaw11_may.T6 : Bool × List (List Nat × List Nat) := (true, [([], []), ([], []), ([], []), ([1, 2], [1, 2]), ([3], [3]), ([4], [4]), ([5], [5]), ([6], [6]), ([7], [7]), ([], []), ([], []), ([9, 10], [9, 10]), ([11], [11]), ([12], [12]), ([13], [13]), ([14], [14]), ([15], [15]), ([8, 16], [8, 16]), ([17], [17]), ([0, 18], [0, 18]), ([19, 19, 0, 1, 2, 3, 4, 5, 6, 7, 8, 9, 10, 11, 12, 13, 14, 15, 16, 17, 18, 19], [0, 19])])
def foghornlaw11_may.B6 : List Nat := [0, 0, 0, 6, 14, 30, 62, 126, 254, 0, 0, 1536, 3584, 7680, 15872, 32256, 65024, 131070, 262142, 524287, 1048575]
theorem foghornlaw11_may.tab6 : rtab .any (opsOf Try.f90 6) = foghornlaw11_may.T6 := by kernel_rfl
theorem foghornlaw11_may.bits6 : waitsOk foghornlaw11_may.T6.2 foghornlaw11_may.B6 = true := by kernel_rfl

/-! ### foghornlaw11_near: function 91 -/
def foghornlaw11_near.l0 : Nat → List (S146) → List (S101) → Int → Option ((List (S101)))
  | 0, _, _, _ => none
  | k + 1, x0, x3, x4 => if x4 < (x3.length : Int) then (if 0 ≤ x4 then (if x4 < (x0.length : Int) then ((floatBits .quo .f64 (floatOfInt .f64 (Int.tmod ((rd_T146 x0 x4).f0) 1048576)) 4661225614328463360).bind fun t1061 => ((floatBits .quo .f64 (floatOfInt .f64 (Int.tmod ((rd_T146 x0 x4).f1) 1048576)) 4661225614328463360).bind fun t1063 => (foghornlaw11_near.l0 k x0 (x3.set (x4 : Int).toNat (⟨(t1061, t1063), false⟩ : S101)) (wrap64 (x4 + 1))))) else (none)) else (none)) else (some x3)
def foghornlaw11_near.f (k : Nat) (l0 : List (S146)) : Option ((List (S101))) := (foghornlaw11_samples.f k l0).bind fun t1057 => (foghornlaw11_near.l0 k l0 t1057 0)
theorem foghornlaw11_near.mono_l : ∀ k, (∀ y0 y1 y2, LeO (foghornlaw11_near.l0 k y0 y1 y2) (foghornlaw11_near.l0 (k + 1) y0 y1 y2))
  | 0 => fun _ _ _ r h => by simp [foghornlaw11_near.l0] at h
  | k + 1 => by
    have ih0 := foghornlaw11_near.mono_l k
    · intro y0 y1 y2
      unfold foghornlaw11_near.l0
      repeat' first
      | (with_reducible exact ih0 _ _ _)
      | (with_reducible exact foghornlaw11_samples.mono _ _)
      | (with_reducible exact LeO.refl _)
      | (with_reducible exact LeO.none _)
      | (with_reducible refine LeO.ite ?_ ?_)
      | (with_reducible refine LeO.bind ?_ (fun _ => ?_))
      | exact ih0 _ _ _
      | exact foghornlaw11_samples.mono _ _
      | exact LeO.none _
      | refine LeO.ite ?_ ?_
      | refine LeO.bind ?_ (fun _ => ?_)
theorem foghornlaw11_near.mono : ∀ a0 k, LeO (foghornlaw11_near.f k a0) (foghornlaw11_near.f (k + 1) a0) := by
  intro a0 k
  have ih0 := foghornlaw11_near.mono_l k
  unfold foghornlaw11_near.f
  repeat' first
      | (with_reducible exact ih0 _ _ _)
      | (with_reducible exact foghornlaw11_samples.mono _ _)
      | (with_reducible exact LeO.refl _)
      | (with_reducible exact LeO.none _)
      | (with_reducible refine LeO.ite ?_ ?_)
      | (with_reducible refine LeO.bind ?_ (fun _ => ?_))
      | exact ih0 _ _ _
      | exact foghornlaw11_samples.mono _ _
      | exact LeO.none _
      | refine LeO.ite ?_ ?_
      | refine LeO.bind ?_ (fun _ => ?_)
def foghornlaw11_near.T5 : Bool × List (List Nat × List Nat) := (true, [([], []), ([], []), ([], []), ([], []), ([2, 3], [2, 3]), ([4], [4]), ([5], [5]), ([6], [6]), ([7], [7]), ([8], [8]), ([], []), ([], []), ([10, 11], [10, 11]), ([12], [12]), ([13], [13]), ([14], [14]), ([15], [15]), ([16], [16]), ([9, 17], [9, 17]), ([18], [18]), ([0, 1, 0, 1, 2, 3, 4, 5, 6, 7, 8, 9, 10, 11, 12, 13, 14, 15, 16, 17, 18, 19], [0, 1]), ([20, 19, 0, 1, 2, 3, 4, 5, 6, 7, 8, 9, 10, 11, 12, 13, 14, 15, 16, 17, 18, 19], [19, 20])])
def foghornlaw11_near.B5 : List Nat := [0, 0, 0, 0, 12, 28, 60, 124, 252, 508, 0, 0, 3072, 7168, 15360, 31744, 64512, 130048, 262140, 524284, 1048575, 2097151]
theorem foghornlaw11_near.tab5 : rtab .any (opsOf Try.f91 5) = foghornlaw11_near.T5 := by kernel_rfl
theorem foghornlaw11_near.bits5 : waitsOk foghornlaw11_near.T5.2 foghornlaw11_near.B5 = true := by kernel_rfl

/-! ### foghornlaw11_FeedbackAdds: function 21 -/
mutual
def foghornlaw11_FeedbackAdds.j0 : Nat → List (S146) → List (S146) → Int → List (Nat × Nat) → Option (Bool)
  | 0, _, _, _, _ => none
  | k + 1, x3, x4, x5, x13 => (foghornlaw11_near.f k x3).bind fun t1151 => ((foghornlaw11_near.f k x4).bind fun t1154 => (if 0 ≤ (Int.tmod (wrap64 ((Int.tmod x5 20) + 20)) 20) then (if ([] : List (Nat × Nat)).length + (Int.tmod (wrap64 ((Int.tmod x5 20) + 20)) 20 : Int).toNat < 8796093022208 then (foghornlaw11_FeedbackAdds.l0 k x13 t1151 t1154 ([] : List (Nat × Nat)) ([] : List (Nat × Nat)) ([] : List (Nat × Nat)) (([] : List (Nat × Nat)) ++ List.replicate (Int.tmod (wrap64 ((Int.tmod x5 20) + 20)) 20 : Int).toNat ((0, 0) : Nat × Nat)) 0) else (none)) else (none)))
def foghornlaw11_FeedbackAdds.l0 : Nat → List (Nat × Nat) → List (S101) → List (S101) → List (Nat × Nat) → List (Nat × Nat) → List (Nat × Nat) → List (Nat × Nat) → Int → Option (Bool)
  | 0, _, _, _, _, _, _, _, _ => none
  | k + 1, x13, x14, x15, x16, x17, x18, x19, x20 => if x20 < (x14.length : Int) then (if x20 < (x15.length : Int) then (if 0 ≤ x20 then (if x16.length < 8796093022208 then (if x17.length < 8796093022208 then ((floatBits .add .f64 (((rd_T101 x14 x20).f0).1) (((rd_T101 x15 x20).f0).1)).bind fun t1169 => ((floatBits .add .f64 (((rd_T101 x14 x20).f0).2) (((rd_T101 x15 x20).f0).2)).bind fun t1171 => (if x18.length < 8796093022208 then (if x19.length < 8796093022208 then (foghornlaw11_FeedbackAdds.l0 k x13 x14 x15 (x16 ++ [(rd_T101 x14 x20).f0]) (x17 ++ [(rd_T101 x15 x20).f0]) (x18 ++ [(t1169, t1171)]) (x19 ++ [(rd_T101 x14 x20).f0]) (wrap64 (x20 + 1))) else (none)) else (none)))) else (none)) else (none)) else (none)) else (if 0 ≤ x20 then (if x16.length < 8796093022208 then (if x17.length < 8796093022208 then ((floatBits .add .f64 (((rd_T101 x14 x20).f0).1) 0).bind fun t1187 => ((floatBits .add .f64 (((rd_T101 x14 x20).f0).2) 0).bind fun t1189 => (if x18.length < 8796093022208 then (if x19.length < 8796093022208 then (foghornlaw11_FeedbackAdds.l0 k x13 x14 x15 (x16 ++ [(rd_T101 x14 x20).f0]) (x17 ++ [(0, 0)]) (x18 ++ [(t1187, t1189)]) (x19 ++ [(rd_T101 x14 x20).f0]) (wrap64 (x20 + 1))) else (none)) else (none)))) else (none)) else (none)) else (none))) else ((feedback_Echo.f k x13 x16).bind fun bt1197 => ((feedback_Echo.f k x13 x17).bind fun bt1201 => ((feedback_Echo.f k x13 x18).bind fun bt1205 => ((feedback_Echo.f k x13 x19).bind fun bt1209 => (if bt1197.2 = 0 then (if bt1201.2 = 0 then (if bt1205.2 = 0 then (if bt1209.2 = 0 then (if (bt1197.1.length : Int) = (x16.length : Int) then (if (bt1201.1.length : Int) = (x16.length : Int) then (if (bt1205.1.length : Int) = (x16.length : Int) then (foghornlaw11_FeedbackAdds.j2 k x16 x19 bt1197.1 bt1201.1 bt1205.1 bt1209.1 ((bt1209.1.length : Int) != (x19.length : Int))) else (foghornlaw11_FeedbackAdds.j2 k x16 x19 bt1197.1 bt1201.1 bt1205.1 bt1209.1 true)) else (foghornlaw11_FeedbackAdds.j2 k x16 x19 bt1197.1 bt1201.1 bt1205.1 bt1209.1 true)) else (foghornlaw11_FeedbackAdds.j2 k x16 x19 bt1197.1 bt1201.1 bt1205.1 bt1209.1 true)) else (foghornlaw11_FeedbackAdds.j2 k x16 x19 bt1197.1 bt1201.1 bt1205.1 bt1209.1 true)) else (foghornlaw11_FeedbackAdds.j2 k x16 x19 bt1197.1 bt1201.1 bt1205.1 bt1209.1 true)) else (foghornlaw11_FeedbackAdds.j2 k x16 x19 bt1197.1 bt1201.1 bt1205.1 bt1209.1 true)) else (foghornlaw11_FeedbackAdds.j2 k x16 x19 bt1197.1 bt1201.1 bt1205.1 bt1209.1 true))))))
def foghornlaw11_FeedbackAdds.j2 : Nat → List (Nat × Nat) → List (Nat × Nat) → List (Nat × Nat) → List (Nat × Nat) → List (Nat × Nat) → List (Nat × Nat) → Bool → Option (Bool)
  | 0, _, _, _, _, _, _, _ => none
  | k + 1, x16, x19, x22, x24, x26, x28, x175 => if x175 = true then (some false) else (foghornlaw11_FeedbackAdds.l1 k x16 x19 x22 x24 x26 x28 0)
def foghornlaw11_FeedbackAdds.l1 : Nat → List (Nat × Nat) → List (Nat × Nat) → List (Nat × Nat) → List (Nat × Nat) → List (Nat × Nat) → List (Nat × Nat) → Int → Option (Bool)
  | 0, _, _, _, _, _, _, _ => none
  | k + 1, x16, x19, x22, x24, x26, x28, x30 => if x30 < (x16.length : Int) then (if 0 ≤ x30 then (if x30 < (x26.length : Int) then (if x30 < (x22.length : Int) then (if x30 < (x24.length : Int) then ((floatBits .add .f64 ((rdOf (0, 0) x22 x30).1) ((rdOf (0, 0) x24 x30).1)).bind fun t1216 => ((floatBits .add .f64 ((rdOf (0, 0) x22 x30).2) ((rdOf (0, 0) x24 x30).2)).bind fun t1219 => (if (!((FloatKind.f64.format.order ((rdOf (0, 0) x26 x30).1) t1216 == some .eq) && (FloatKind.f64.format.order ((rdOf (0, 0) x26 x30).2) t1219 == some .eq))) = true then (some false) else (if 0 ≤ (wrap64 ((wrap64 (x30 + (x19.length : Int))) - (x16.length : Int))) then (if (wrap64 ((wrap64 (x30 + (x19.length : Int))) - (x16.length : Int))) < (x28.length : Int) then (if (!((FloatKind.f64.format.order ((rdOf (0, 0) x28 (wrap64 ((wrap64 (x30 + (x19.length : Int))) - (x16.length : Int)))).1) ((rdOf (0, 0) x22 x30).1) == some .eq) && (FloatKind.f64.format.order ((rdOf (0, 0) x28 (wrap64 ((wrap64 (x30 + (x19.length : Int))) - (x16.length : Int)))).2) ((rdOf (0, 0) x22 x30).2) == some .eq))) = true then (some false) else (foghornlaw11_FeedbackAdds.l1 k x16 x19 x22 x24 x26 x28 (wrap64 (x30 + 1)))) else (none)) else (none))))) else (none)) else (none)) else (none)) else (none)) else (foghornlaw11_FeedbackAdds.l2 k x16 x19 x28 0)
def foghornlaw11_FeedbackAdds.l2 : Nat → List (Nat × Nat) → List (Nat × Nat) → List (Nat × Nat) → Int → Option (Bool)
  | 0, _, _, _, _ => none
  | k + 1, x16, x19, x28, x31 => if x31 < (wrap64 ((x19.length : Int) - (x16.length : Int))) then (if 0 ≤ x31 then (if x31 < (x28.length : Int) then (if (!((FloatKind.f64.format.order ((rdOf (0, 0) x28 x31).1) 0 == some .eq) && (FloatKind.f64.format.order ((rdOf (0, 0) x28 x31).2) 0 == some .eq))) = true then (some false) else (foghornlaw11_FeedbackAdds.l2 k x16 x19 x28 (wrap64 (x31 + 1)))) else (none)) else (none)) else (some true)
end
def foghornlaw11_FeedbackAdds.f (k : Nat) (a0 : Int) (a1 : Int) (l2 : List (S174)) (l3 : List (S146)) (l4 : List (S146)) (a5 : Int) : Option (Bool) := (foghornlaw11_awake.f k).bind fun t1143 => (if t1143 = true then ((foghornlaw11_may.f k a0 a1 l2).bind fun t1144 => (if (l3.length : Int) > 300 then (if 300 ≤ (l3.length : Int) then (foghornlaw11_FeedbackAdds.j0 k (l3.take 300) l4 a5 t1144) else (none)) else (foghornlaw11_FeedbackAdds.j0 k l3 l4 a5 t1144))) else (some false))
theorem foghornlaw11_FeedbackAdds.mono_l : ∀ k, (∀ y0 y1 y2 y3, LeO (foghornlaw11_FeedbackAdds.j0 k y0 y1 y2 y3) (foghornlaw11_FeedbackAdds.j0 (k + 1) y0 y1 y2 y3)) ∧ (∀ y0 y1 y2 y3 y4 y5 y6 y7, LeO (foghornlaw11_FeedbackAdds.l0 k y0 y1 y2 y3 y4 y5 y6 y7) (foghornlaw11_FeedbackAdds.l0 (k + 1) y0 y1 y2 y3 y4 y5 y6 y7)) ∧ (∀ y0 y1 y2 y3 y4 y5 y6, LeO (foghornlaw11_FeedbackAdds.j2 k y0 y1 y2 y3 y4 y5 y6) (foghornlaw11_FeedbackAdds.j2 (k + 1) y0 y1 y2 y3 y4 y5 y6)) ∧ (∀ y0 y1 y2 y3 y4 y5 y6, LeO (foghornlaw11_FeedbackAdds.l1 k y0 y1 y2 y3 y4 y5 y6) (foghornlaw11_FeedbackAdds.l1 (k + 1) y0 y1 y2 y3 y4 y5 y6)) ∧ (∀ y0 y1 y2 y3, LeO (foghornlaw11_FeedbackAdds.l2 k y0 y1 y2 y3) (foghornlaw11_FeedbackAdds.l2 (k + 1) y0 y1 y2 y3))
  | 0 => ⟨fun _ _ _ _ r h => by simp [foghornlaw11_FeedbackAdds.j0] at h, fun _ _ _ _ _ _ _ _ r h => by simp [foghornlaw11_FeedbackAdds.l0] at h, fun _ _ _ _ _ _ _ r h => by simp [foghornlaw11_FeedbackAdds.j2] at h, fun _ _ _ _ _ _ _ r h => by simp [foghornlaw11_FeedbackAdds.l1] at h, fun _ _ _ _ r h => by simp [foghornlaw11_FeedbackAdds.l2] at h⟩
  | k + 1 => by
    obtain ⟨ih0, ih1, ih2, ih3, ih4⟩ := foghornlaw11_FeedbackAdds.mono_l k
    refine ⟨?_, ?_, ?_, ?_, ?_⟩
    · intro y0 y1 y2 y3
      unfold foghornlaw11_FeedbackAdds.j0
      repeat' first
      | (with_reducible exact ih0 _ _ _ _)
      | (with_reducible exact ih1 _ _ _ _ _ _ _ _)
      | (with_reducible exact ih2 _ _ _ _ _ _ _)
      | (with_reducible exact ih3 _ _ _ _ _ _ _)
      | (with_reducible exact ih4 _ _ _ _)
      | (with_reducible exact feedback_Echo.mono _ _ _)
      | (with_reducible exact foghornlaw11_awake.mono _)
      | (with_reducible exact foghornlaw11_may.mono _ _ _ _)
      | (with_reducible exact foghornlaw11_near.mono _ _)
      | (with_reducible exact LeO.refl _)
      | (with_reducible exact LeO.none _)
      | (with_reducible refine LeO.ite ?_ ?_)
      | (with_reducible refine LeO.bind ?_ (fun _ => ?_))
      | exact ih0 _ _ _ _
      | exact ih1 _ _ _ _ _ _ _ _
      | exact ih2 _ _ _ _ _ _ _
      | exact ih3 _ _ _ _ _ _ _
      | exact ih4 _ _ _ _
      | exact feedback_Echo.mono _ _ _
      | exact foghornlaw11_awake.mono _
      | exact foghornlaw11_may.mono _ _ _ _
      | exact foghornlaw11_near.mono _ _
      | exact LeO.none _
      | refine LeO.ite ?_ ?_
      | refine LeO.bind ?_ (fun _ => ?_)
    · intro y0 y1 y2 y3 y4 y5 y6 y7
      unfold foghornlaw11_FeedbackAdds.l0
      repeat' first
      | (with_reducible exact ih0 _ _ _ _)
      | (with_reducible exact ih1 _ _ _ _ _ _ _ _)
      | (with_reducible exact ih2 _ _ _ _ _ _ _)
      | (with_reducible exact ih3 _ _ _ _ _ _ _)
      | (with_reducible exact ih4 _ _ _ _)
      | (with_reducible exact feedback_Echo.mono _ _ _)
      | (with_reducible exact foghornlaw11_awake.mono _)
      | (with_reducible exact foghornlaw11_may.mono _ _ _ _)
      | (with_reducible exact foghornlaw11_near.mono _ _)
      | (with_reducible exact LeO.refl _)
      | (with_reducible exact LeO.none _)
      | (with_reducible refine LeO.ite ?_ ?_)
      | (with_reducible refine LeO.bind ?_ (fun _ => ?_))
      | exact ih0 _ _ _ _
      | exact ih1 _ _ _ _ _ _ _ _
      | exact ih2 _ _ _ _ _ _ _
      | exact ih3 _ _ _ _ _ _ _
      | exact ih4 _ _ _ _
      | exact feedback_Echo.mono _ _ _
      | exact foghornlaw11_awake.mono _
      | exact foghornlaw11_may.mono _ _ _ _
      | exact foghornlaw11_near.mono _ _
      | exact LeO.none _
      | refine LeO.ite ?_ ?_
      | refine LeO.bind ?_ (fun _ => ?_)
    · intro y0 y1 y2 y3 y4 y5 y6
      unfold foghornlaw11_FeedbackAdds.j2
      repeat' first
      | (with_reducible exact ih0 _ _ _ _)
      | (with_reducible exact ih1 _ _ _ _ _ _ _ _)
      | (with_reducible exact ih2 _ _ _ _ _ _ _)
      | (with_reducible exact ih3 _ _ _ _ _ _ _)
      | (with_reducible exact ih4 _ _ _ _)
      | (with_reducible exact feedback_Echo.mono _ _ _)
      | (with_reducible exact foghornlaw11_awake.mono _)
      | (with_reducible exact foghornlaw11_may.mono _ _ _ _)
      | (with_reducible exact foghornlaw11_near.mono _ _)
      | (with_reducible exact LeO.refl _)
      | (with_reducible exact LeO.none _)
      | (with_reducible refine LeO.ite ?_ ?_)
      | (with_reducible refine LeO.bind ?_ (fun _ => ?_))
      | exact ih0 _ _ _ _
      | exact ih1 _ _ _ _ _ _ _ _
      | exact ih2 _ _ _ _ _ _ _
      | exact ih3 _ _ _ _ _ _ _
      | exact ih4 _ _ _ _
      | exact feedback_Echo.mono _ _ _
      | exact foghornlaw11_awake.mono _
      | exact foghornlaw11_may.mono _ _ _ _
      | exact foghornlaw11_near.mono _ _
      | exact LeO.none _
      | refine LeO.ite ?_ ?_
      | refine LeO.bind ?_ (fun _ => ?_)
    · intro y0 y1 y2 y3 y4 y5 y6
      unfold foghornlaw11_FeedbackAdds.l1
      repeat' first
      | (with_reducible exact ih0 _ _ _ _)
      | (with_reducible exact ih1 _ _ _ _ _ _ _ _)
      | (with_reducible exact ih2 _ _ _ _ _ _ _)
      | (with_reducible exact ih3 _ _ _ _ _ _ _)
      | (with_reducible exact ih4 _ _ _ _)
      | (with_reducible exact feedback_Echo.mono _ _ _)
      | (with_reducible exact foghornlaw11_awake.mono _)
      | (with_reducible exact foghornlaw11_may.mono _ _ _ _)
      | (with_reducible exact foghornlaw11_near.mono _ _)
      | (with_reducible exact LeO.refl _)
      | (with_reducible exact LeO.none _)
      | (with_reducible refine LeO.ite ?_ ?_)
      | (with_reducible refine LeO.bind ?_ (fun _ => ?_))
      | exact ih0 _ _ _ _
      | exact ih1 _ _ _ _ _ _ _ _
      | exact ih2 _ _ _ _ _ _ _
      | exact ih3 _ _ _ _ _ _ _
      | exact ih4 _ _ _ _
      | exact feedback_Echo.mono _ _ _
      | exact foghornlaw11_awake.mono _
      | exact foghornlaw11_may.mono _ _ _ _
      | exact foghornlaw11_near.mono _ _
      | exact LeO.none _
      | refine LeO.ite ?_ ?_
      | refine LeO.bind ?_ (fun _ => ?_)
    · intro y0 y1 y2 y3
      unfold foghornlaw11_FeedbackAdds.l2
      repeat' first
      | (with_reducible exact ih0 _ _ _ _)
      | (with_reducible exact ih1 _ _ _ _ _ _ _ _)
      | (with_reducible exact ih2 _ _ _ _ _ _ _)
      | (with_reducible exact ih3 _ _ _ _ _ _ _)
      | (with_reducible exact ih4 _ _ _ _)
      | (with_reducible exact feedback_Echo.mono _ _ _)
      | (with_reducible exact foghornlaw11_awake.mono _)
      | (with_reducible exact foghornlaw11_may.mono _ _ _ _)
      | (with_reducible exact foghornlaw11_near.mono _ _)
      | (with_reducible exact LeO.refl _)
      | (with_reducible exact LeO.none _)
      | (with_reducible refine LeO.ite ?_ ?_)
      | (with_reducible refine LeO.bind ?_ (fun _ => ?_))
      | exact ih0 _ _ _ _
      | exact ih1 _ _ _ _ _ _ _ _
      | exact ih2 _ _ _ _ _ _ _
      | exact ih3 _ _ _ _ _ _ _
      | exact ih4 _ _ _ _
      | exact feedback_Echo.mono _ _ _
      | exact foghornlaw11_awake.mono _
      | exact foghornlaw11_may.mono _ _ _ _
      | exact foghornlaw11_near.mono _ _
      | exact LeO.none _
      | refine LeO.ite ?_ ?_
      | refine LeO.bind ?_ (fun _ => ?_)
theorem foghornlaw11_FeedbackAdds.mono : ∀ a0 a1 a2 a3 a4 a5 k, LeO (foghornlaw11_FeedbackAdds.f k a0 a1 a2 a3 a4 a5) (foghornlaw11_FeedbackAdds.f (k + 1) a0 a1 a2 a3 a4 a5) := by
  intro a0 a1 a2 a3 a4 a5 k
  obtain ⟨ih0, ih1, ih2, ih3, ih4⟩ := foghornlaw11_FeedbackAdds.mono_l k
  unfold foghornlaw11_FeedbackAdds.f
  repeat' first
      | (with_reducible exact ih0 _ _ _ _)
      | (with_reducible exact ih1 _ _ _ _ _ _ _ _)
      | (with_reducible exact ih2 _ _ _ _ _ _ _)
      | (with_reducible exact ih3 _ _ _ _ _ _ _)
      | (with_reducible exact ih4 _ _ _ _)
      | (with_reducible exact feedback_Echo.mono _ _ _)
      | (with_reducible exact foghornlaw11_awake.mono _)
      | (with_reducible exact foghornlaw11_may.mono _ _ _ _)
      | (with_reducible exact foghornlaw11_near.mono _ _)
      | (with_reducible exact LeO.refl _)
      | (with_reducible exact LeO.none _)
      | (with_reducible refine LeO.ite ?_ ?_)
      | (with_reducible refine LeO.bind ?_ (fun _ => ?_))
      | exact ih0 _ _ _ _
      | exact ih1 _ _ _ _ _ _ _ _
      | exact ih2 _ _ _ _ _ _ _
      | exact ih3 _ _ _ _ _ _ _
      | exact ih4 _ _ _ _
      | exact feedback_Echo.mono _ _ _
      | exact foghornlaw11_awake.mono _
      | exact foghornlaw11_may.mono _ _ _ _
      | exact foghornlaw11_near.mono _ _
      | exact LeO.none _
      | refine LeO.ite ?_ ?_
      | refine LeO.bind ?_ (fun _ => ?_)
def foghornlaw11_FeedbackAdds.T18 : Bool × List (List Nat × List Nat) := (true, [([], []), ([], []), ([], []), ([1, 2], [1, 2]), ([3], [3]), ([4], [4]), ([5], [5]), ([], []), ([7], [7]), ([6, 8], [6, 8]), ([], []), ([], []), ([10, 11], [10, 11]), ([12], [12]), ([13], [13]), ([14], [14]), ([], []), ([16], [16]), ([15, 17], [15, 17]), ([9, 18], [9, 18]), ([19], [19]), ([0, 20], [0, 20]), ([21, 21, 0, 1, 2, 3, 4, 5, 6, 7, 8, 9, 10, 11, 12, 13, 14, 15, 16, 17, 18, 19, 20, 21], [0, 21])])
def foghornlaw11_FeedbackAdds.B18 : List Nat := [0, 0, 0, 6, 14, 30, 62, 0, 128, 510, 0, 0, 3072, 7168, 15360, 31744, 0, 65536, 261120, 524286, 1048574, 2097151, 4194303]
theorem foghornlaw11_FeedbackAdds.tab18 : rtab .any (opsOf Try.f21 18) = foghornlaw11_FeedbackAdds.T18 := by kernel_rfl
theorem foghornlaw11_FeedbackAdds.bits18 : waitsOk foghornlaw11_FeedbackAdds.T18.2 foghornlaw11_FeedbackAdds.B18 = true := by kernel_rfl
def foghornlaw11_FeedbackAdds.T29 : Bool × List (List Nat × List Nat) := (true, [([], []), ([], []), ([0, 1], [0, 1]), ([2], [2]), ([], []), ([], []), ([4, 5], [4, 5]), ([6], [6]), ([7], [7]), ([], []), ([], []), ([9, 10], [9, 10]), ([11], [11]), ([12], [12]), ([8, 13], [8, 13]), ([], []), ([], []), ([15, 16], [15, 16]), ([17], [17]), ([18], [18]), ([], []), ([], []), ([20, 21], [20, 21]), ([22], [22]), ([23], [23]), ([19, 24], [19, 24]), ([14, 25], [14, 25]), ([3, 26], [3, 26]), ([27], [27]), ([28], [28]), ([28], [28]), ([28], [28]), ([31, 28], [28, 31]), ([30, 32, 28], [28, 30, 32]), ([28], [28]), ([34, 28], [28, 34]), ([33, 35, 28], [28, 33, 35]), ([29, 36, 28], [28, 29, 36]), ([37, 28], [28, 37]), ([28], [28]), ([28], [28]), ([39, 40, 28], [28, 39, 40]), ([41, 28], [28, 41]), ([38, 42, 28], [28, 38, 42]), ([28, 43], [28, 43])])
def foghornlaw11_FeedbackAdds.B29 : List Nat := [0, 0, 3, 7, 0, 0, 48, 112, 240, 0, 0, 1536, 3584, 7680, 16368, 0, 0, 98304, 229376, 491520, 0, 0, 3145728, 7340032, 15728640, 33521664, 67108848, 134217727, 268435455, 536870911, 536870911, 536870911, 2684354559, 8053063679, 536870911, 17716740095, 68182605823, 137438953471, 274877906943, 536870911, 536870911, 1649804312575, 3848827568127, 8796093022207, 17592186044415]
theorem foghornlaw11_FeedbackAdds.tab29 : rtab .any (opsOf Try.f21 29) = foghornlaw11_FeedbackAdds.T29 := by kernel_rfl
theorem foghornlaw11_FeedbackAdds.bits29 : waitsOk foghornlaw11_FeedbackAdds.T29.2 foghornlaw11_FeedbackAdds.B29 = true := by kernel_rfl
/-- THE ONE PURE STATEMENT of foghornlaw11_FeedbackAdds: ours. -/
def foghornlaw11_FeedbackAdds.Pure : Prop := ∀ (a0 : Int) (a1 : Int) (l2 : List (S174)) (l3 : List (S146)) (l4 : List (S146)) (a5 : Int), ((Lit.int .i64 a0).wf = true) → ((Lit.int .i64 a1).wf = true) → (l2.length * 24 ≤ 140737488351232 ∧ ∀ x ∈ l2, (fun y_ : S174 => ((Lit.int .i64 y_.f0).wf = true) ∧ ((Lit.int .i64 y_.f1).wf = true) ∧ (True)) x) → (l3.length * 12 ≤ 140737488351232 ∧ ∀ x ∈ l3, (fun y_ : S146 => ((Lit.int .i32 y_.f0).wf = true) ∧ ((Lit.int .i32 y_.f1).wf = true) ∧ (True)) x) → (l4.length * 12 ≤ 140737488351232 ∧ ∀ x ∈ l4, (fun y_ : S146 => ((Lit.int .i32 y_.f0).wf = true) ∧ ((Lit.int .i32 y_.f1).wf = true) ∧ (True)) x) → ((Lit.int .i64 a5).wf = true) → (1 + 1 + ((l2.map (fun y_ : S174 => (1 + 1 + 1 + 1))).sum + 1) + ((l3.map (fun y_ : S146 => (1 + 1 + 1 + 1))).sum + 1) + ((l4.map (fun y_ : S146 => (1 + 1 + 1 + 1))).sum + 1) + 1 ≤ 1048576) → ∃ k, foghornlaw11_FeedbackAdds.f k a0 a1 l2 l3 l4 a5 = some true

end Go.Proofs.Ythfcafllcgjepaa.Q
