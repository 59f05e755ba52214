import Derived.Test.YthfcafllcgjepaaFeedbackReachK0
-- Printed by myprint.py (ours) over the kit's printer, out of the translation.
namespace Go.Proofs.Ythfcafllcgjepaa.Q
open Go.RowKit Go.Proofs.YthfcafllcgjepaaW.PrintWords Go.Proofs.YthfcafllcgjepaaW.PrintLast Go.Proofs.YthfcafllcgjepaaW.PrintMore
attribute [local go_sem] ArrW.ptrOf_slice unary_neg_float unary_neg_complex run_store_float run_store_complex max2_int min2_int max_two min_two max_three min_three max_four min_four   -- for this text's walks alone
set_option linter.unusedVariables false
set_option linter.unusedSimpArgs false
mutual
def bits_Ungray.j0 : Nat → Int → Bool → Option (Int × Int)
  | 0, _, _ => none
  | k + 1, x0, x10 => if x10 = true then (some (0, 1)) else (bits_Ungray.l0 k x0 1)
def bits_Ungray.l0 : Nat → Int → Int → Option (Int × Int)
  | 0, _, _ => none
  | k + 1, x0, x4 => if x4 < 16 then (if 0 ≤ x4 then (bits_Ungray.l0 k (Go.bits .xor .i64 x0 (shr .i64 x0 x4)) (wrap64 (x4 * 2))) else (none)) else (some (x0, 0))
end
def bits_Ungray.f (k : Nat) (a0 : Int) : Option (Int × Int) := if a0 < 0 then (bits_Ungray.j0 k a0 true) else (bits_Ungray.j0 k a0 (decide (a0 ≥ 65536)))
def foghornlaw11_taps.l0 : Nat → List (S174) → List (Nat × Nat) → Int → Option (List (Nat × Nat))
  | 0, _, _, _ => none
  | k + 1, x0, x3, x4 => if x4 < (x0.length : Int) then (if 0 ≤ x4 then ((floatBits .quo .f64 (floatOfInt .f64 ((rd_T174 x0 x4).f0)) 4634204016564240384).bind fun t108 => ((floatBits .quo .f64 (floatOfInt .f64 ((rd_T174 x0 x4).f1)) 4634204016564240384).bind fun t110 => (if (rd_T174 x0 x4).f2 = true then (if x3.length < 8796093022208 then (foghornlaw11_taps.l0 k x0 (x3 ++ [((IntKind.u64.wrap ((rd_T174 x0 x4).f0)).toNat, (IntKind.u64.wrap ((rd_T174 x0 x4).f1)).toNat)]) (wrap64 (x4 + 1))) else (none)) else (if x3.length < 8796093022208 then (foghornlaw11_taps.l0 k x0 (x3 ++ [(t108, t110)]) (wrap64 (x4 + 1))) else (none))))) else (none)) else (if x3.length < 8796093022208 then (if (x3.length : Int) ≤ ((x3 ++ [(4651892959631900672, 0)]).length : Int) then (some (x3)) else (none)) else (none))
def foghornlaw11_taps.f (k : Nat) (l0 : List (S174)) : Option (List (Nat × Nat)) := foghornlaw11_taps.l0 k l0 ([] : List (Nat × Nat)) 0
def foghornlaw11_numbers.l0 : Nat → List (S146) → List (Nat × Nat) → Int → Option (List (Nat × Nat))
  | 0, _, _, _ => none
  | k + 1, x0, x3, x4 => if x4 < (x0.length : Int) then (if 0 ≤ x4 then ((floatBits .quo .f64 (floatOfInt .f64 ((rd_T146 x0 x4).f0)) 4661225614328463360).bind fun t121 => ((floatBits .quo .f64 (floatOfInt .f64 ((rd_T146 x0 x4).f1)) 4661225614328463360).bind fun t123 => (if x3.length < 14073748835379 then (foghornlaw11_numbers.l0 k x0 (x3 ++ [(t121, t123)]) (wrap64 (x4 + 1))) else (none)))) else (none)) else (if x3.length < 14073748835379 then (if (x3.length : Int) ≤ ((x3 ++ [(4651892959631900672, 0)]).length : Int) then (some (x3)) else (none)) else (none))
def foghornlaw11_numbers.f (k : Nat) (l0 : List (S146)) : Option (List (Nat × Nat)) := foghornlaw11_numbers.l0 k l0 ([] : List (Nat × Nat)) 0
def foghornref11_step.f (a0 : Nat) : Option (Bool) := if (FloatKind.f64.format.order a0 13830554455654793216 == some .gt || FloatKind.f64.format.order a0 13830554455654793216 == some .eq) = true then (if (FloatKind.f64.format.order a0 4607182418800017408 == some .lt || FloatKind.f64.format.order a0 4607182418800017408 == some .eq) = true then ((floatBits .mul .f64 a0 4634204016564240384).bind fun t133 => ((floatToIntVal .f64 t133 .i64).bind fun t134 => (some (FloatKind.f64.format.order (floatOfInt .f64 t134) t133 == some .eq)))) else (some false)) else (some false)
def foghornref11_size.f (a0 : Nat) : Option (Nat) := if (FloatKind.f64.format.order a0 0 == some .lt) = true then (some (Op.negFloat .f64 a0)) else (some a0)
mutual
def foghornref11_Taps.j0 : Nat → List (Nat × Nat) → Bool → Option (Bool)
  | 0, _, _ => none
  | k + 1, x0, x12 => if x12 = true then (some false) else (foghornref11_Taps.l0 k x0 0 0)
def foghornref11_Taps.l0 : Nat → List (Nat × Nat) → Nat → Int → Option (Bool)
  | 0, _, _, _ => none
  | k + 1, x0, x3, x4 => if x4 < (x0.length : Int) then (if 0 ≤ x4 then ((foghornref11_step.f ((rdOf (0, 0) x0 x4).1)).bind fun t136 => (if t136 = true then ((foghornref11_step.f ((rdOf (0, 0) x0 x4).2)).bind fun t138 => (foghornref11_Taps.j2 k x0 x3 x4 (!t138))) else (foghornref11_Taps.j2 k x0 x3 x4 true))) else (none)) else (some (FloatKind.f64.format.order x3 4616189618054758400 == some .lt || FloatKind.f64.format.order x3 4616189618054758400 == some .eq))
def foghornref11_Taps.j2 : Nat → List (Nat × Nat) → Nat → Int → Bool → Option (Bool)
  | 0, _, _, _, _ => none
  | k + 1, x0, x3, x4, x34 => if x34 = true then (some false) else (if 0 ≤ x4 then (if x4 < (x0.length : Int) then ((foghornref11_size.f ((rdOf (0, 0) x0 x4).1)).bind fun t140 => ((floatBits .add .f64 x3 t140).bind fun t141 => ((foghornref11_size.f ((rdOf (0, 0) x0 x4).2)).bind fun t143 => ((floatBits .add .f64 t141 t143).bind fun t144 => (foghornref11_Taps.l0 k x0 t144 (wrap64 (x4 + 1))))))) else (none)) else (none))
end
def foghornref11_Taps.f (k : Nat) (l0 : List (Nat × Nat)) : Option (Bool) := if (l0.length : Int) < 1 then (foghornref11_Taps.j0 k l0 true) else (foghornref11_Taps.j0 k l0 (decide ((l0.length : Int) > 64)))
def foghornref02_On.f (a0 : Nat) : Option (Bool) := if (FloatKind.f64.format.order a0 13875590451928498176 == some .gt || FloatKind.f64.format.order a0 13875590451928498176 == some .eq) = true then (if ((FloatKind.f64.format.order a0 4652218415073722368 == some .lt || FloatKind.f64.format.order a0 4652218415073722368 == some .eq) = true) then ((floatBits .mul .f64 a0 4661225614328463360).bind fun t145 => ((floatToIntVal .f64 t145 .i64).bind fun t146 => (some (FloatKind.f64.format.order (floatOfInt .f64 t146) t145 == some .eq)))) else (some false)) else (some false)
def foghornref11_mul.f (a0 : (Nat × Nat)) (a1 : (Nat × Nat)) : Option ((Nat × Nat)) := (floatBits .mul .f64 a0.1 a1.1).bind fun t147 => ((floatBits .mul .f64 a0.2 a1.2).bind fun t148 => ((floatBits .sub .f64 t147 t148).bind fun t149 => ((floatBits .mul .f64 a0.1 a1.2).bind fun t150 => ((floatBits .mul .f64 a0.2 a1.1).bind fun t151 => ((floatBits .add .f64 t150 t151).bind fun t152 => (some (t149, t152)))))))
mutual
def foghornref11_Echo.l0 : Nat → List (Nat × Nat) → List (Nat × Nat) → Int → Option (List (Nat × Nat) × Int)
  | 0, _, _, _ => none
  | k + 1, x0, x1, x6 => if x6 < (x1.length : Int) then (if 0 ≤ x6 then ((foghornref02_On.f ((rdOf (0, 0) x1 x6).1)).bind fun t155 => (if t155 = true then ((foghornref02_On.f ((rdOf (0, 0) x1 x6).2)).bind fun t157 => (if t157 = true then (foghornref11_Echo.l0 k x0 x1 (wrap64 (x6 + 1))) else (some (([] : List (Nat × Nat)), 7)))) else (some (([] : List (Nat × Nat)), 7)))) else (none)) else (foghornref11_Echo.l1 k x0 x1 ([] : List (Nat × Nat)) 0)
def foghornref11_Echo.l1 : Nat → List (Nat × Nat) → List (Nat × Nat) → List (Nat × Nat) → Int → Option (List (Nat × Nat) × Int)
  | 0, _, _, _, _ => none
  | k + 1, x0, x1, x7, x8 => if x8 < (x1.length : Int) then (foghornref11_Echo.l2 k x0 x1 x7 x8 (0, 0) 0) else (some (x7, 0))
def foghornref11_Echo.l2 : Nat → List (Nat × Nat) → List (Nat × Nat) → List (Nat × Nat) → Int → (Nat × Nat) → Int → Option (List (Nat × Nat) × Int)
  | 0, _, _, _, _, _, _ => none
  | k + 1, x0, x1, x7, x8, x9, x10 => if x10 < (x0.length : Int) then (if x10 ≤ x8 then (if 0 ≤ x10 then (if 0 ≤ (wrap64 (x8 - x10)) then (if (wrap64 (x8 - x10)) < (x1.length : Int) then ((foghornref11_mul.f (rdOf (0, 0) x0 x10) (rdOf (0, 0) x1 (wrap64 (x8 - x10)))).bind fun t160 => ((floatBits .add .f64 x9.1 t160.1).bind fun t161 => ((floatBits .add .f64 x9.2 t160.2).bind fun t162 => (foghornref11_Echo.l2 k x0 x1 x7 x8 (t161, t162) (wrap64 (x10 + 1)))))) else (none)) else (none)) else (none)) else (if x7.length < 8796093022208 then (foghornref11_Echo.l1 k x0 x1 (x7 ++ [x9]) (wrap64 (x8 + 1))) else (none))) else (if x7.length < 8796093022208 then (foghornref11_Echo.l1 k x0 x1 (x7 ++ [x9]) (wrap64 (x8 + 1))) else (none))
end
def foghornref11_Echo.f (k : Nat) (l0 : List (Nat × Nat)) (l1 : List (Nat × Nat)) : Option (List (Nat × Nat) × Int) := (foghornref11_Taps.f k l0).bind fun t153 => (if t153 = true then (if (l1.length : Int) > 65536 then (some (([] : List (Nat × Nat)), 1)) else (foghornref11_Echo.l0 k l0 l1 0)) else (some (([] : List (Nat × Nat)), 8)))
def math_Abs.f (a0 : Nat) : Option (Nat) := some ((Go.bits .andNot .u64 (a0 : Int) 9223372036854775808).toNat)
def math_IsNaN.f (a0 : Nat) : Option (Bool) := some (FloatKind.f64.format.order a0 a0 != some .eq)
def math_IsInf.f (a0 : Nat) (a1 : Int) : Option (Bool) := if a1 = 0 then ((math_Abs.f a0).bind fun t169 => (some (FloatKind.f64.format.order t169 9218868437227405311 == some .gt))) else (if a1 < 0 then (some (FloatKind.f64.format.order (Op.negFloat .f64 a0) 9218868437227405311 == some .gt)) else (some (FloatKind.f64.format.order a0 9218868437227405311 == some .gt)))
def math_Floor.f (a0 : Nat) : Option (Nat) := (integF .down a0).bind fun t183 => (some t183)
def feedback_step.f (a0 : Nat) : Option (Bool) := (math_Abs.f a0).bind fun t184 => (if (FloatKind.f64.format.order t184 4607182418800017408 == some .lt || FloatKind.f64.format.order t184 4607182418800017408 == some .eq) = true then ((floatBits .mul .f64 a0 4634204016564240384).bind fun t185 => ((math_Floor.f t185).bind fun t186 => (some (FloatKind.f64.format.order t186 t185 == some .eq)))) else (some false))
mutual
def feedback_taps.l0 : Nat → List (Nat × Nat) → Nat → List (Nat × Nat) → Int → Int → Option (Bool)
  | 0, _, _, _, _, _ => none
  | k + 1, x0, x3, x6, x7, x8 => if x8 < x7 then (if 0 ≤ x8 then (if x8 < (x6.length : Int) then ((feedback_step.f ((rdOf (0, 0) x6 x8).1)).bind fun t188 => (if t188 = true then ((feedback_step.f ((rdOf (0, 0) x6 x8).2)).bind fun t189 => (feedback_taps.j1 k x0 x3 (rdOf (0, 0) x6 x8) x6 x7 x8 (!t189))) else (feedback_taps.j1 k x0 x3 (rdOf (0, 0) x6 x8) x6 x7 x8 true))) else (none)) else (none)) else (if (x0.length : Int) > 0 then (if (x0.length : Int) ≤ 64 then (some (FloatKind.f64.format.order x3 4616189618054758400 == some .lt || FloatKind.f64.format.order x3 4616189618054758400 == some .eq)) else (some false)) else (some false))
def feedback_taps.j1 : Nat → List (Nat × Nat) → Nat → (Nat × Nat) → List (Nat × Nat) → Int → Int → Bool → Option (Bool)
  | 0, _, _, _, _, _, _, _ => none
  | k + 1, x0, x3, x5, x6, x7, x8, x21 => if x21 = true then (some false) else ((math_Abs.f x5.1).bind fun t190 => ((math_Abs.f x5.2).bind fun t191 => ((floatBits .add .f64 t190 t191).bind fun t192 => ((floatBits .add .f64 x3 t192).bind fun t193 => (feedback_taps.l0 k x0 t193 x6 x7 (wrap64 (x8 + 1)))))))
end
def feedback_taps.f (k : Nat) (l0 : List (Nat × Nat)) : Option (Bool) := feedback_taps.l0 k l0 0 l0 (l0.length : Int) 0
theorem feedback_taps.mono_l : ∀ k, (∀ y0 y1 y2 y3 y4, LeO (feedback_taps.l0 k y0 y1 y2 y3 y4) (feedback_taps.l0 (k + 1) y0 y1 y2 y3 y4)) ∧ (∀ y0 y1 y2 y3 y4 y5 y6, LeO (feedback_taps.j1 k y0 y1 y2 y3 y4 y5 y6) (feedback_taps.j1 (k + 1) y0 y1 y2 y3 y4 y5 y6))
  | 0 => ⟨fun _ _ _ _ _ r h => by simp [feedback_taps.l0] at h, fun _ _ _ _ _ _ _ r h => by simp [feedback_taps.j1] at h⟩
  | k + 1 => by
    obtain ⟨ih0, ih1⟩ := feedback_taps.mono_l k
    refine ⟨?_, ?_⟩
    · intro y0 y1 y2 y3 y4
      unfold feedback_taps.l0
      repeat' first
      | (with_reducible exact ih0 _ _ _ _ _)
      | (with_reducible exact ih1 _ _ _ _ _ _ _)
      | (with_reducible exact LeO.refl _)
      | (with_reducible exact LeO.none _)
      | (with_reducible refine LeO.ite ?_ ?_)
      | (with_reducible refine LeO.bind ?_ (fun _ => ?_))
      | exact ih0 _ _ _ _ _
      | exact ih1 _ _ _ _ _ _ _
      | exact LeO.none _
      | refine LeO.ite ?_ ?_
      | refine LeO.bind ?_ (fun _ => ?_)
    · intro y0 y1 y2 y3 y4 y5 y6
      unfold feedback_taps.j1
      repeat' first
      | (with_reducible exact ih0 _ _ _ _ _)
      | (with_reducible exact ih1 _ _ _ _ _ _ _)
      | (with_reducible exact LeO.refl _)
      | (with_reducible exact LeO.none _)
      | (with_reducible refine LeO.ite ?_ ?_)
      | (with_reducible refine LeO.bind ?_ (fun _ => ?_))
      | exact ih0 _ _ _ _ _
      | exact ih1 _ _ _ _ _ _ _
      | exact LeO.none _
      | refine LeO.ite ?_ ?_
      | refine LeO.bind ?_ (fun _ => ?_)
theorem feedback_taps.mono : ∀ a0 k, LeO (feedback_taps.f k a0) (feedback_taps.f (k + 1) a0) := by
  intro a0 k
  obtain ⟨ih0, ih1⟩ := feedback_taps.mono_l k
  unfold feedback_taps.f
  repeat' first
      | (with_reducible exact ih0 _ _ _ _ _)
      | (with_reducible exact ih1 _ _ _ _ _ _ _)
      | (with_reducible exact LeO.refl _)
      | (with_reducible exact LeO.none _)
      | (with_reducible refine LeO.ite ?_ ?_)
      | (with_reducible refine LeO.bind ?_ (fun _ => ?_))
      | exact ih0 _ _ _ _ _
      | exact ih1 _ _ _ _ _ _ _
      | exact LeO.none _
      | refine LeO.ite ?_ ?_
      | refine LeO.bind ?_ (fun _ => ?_)
def grid_within.f (a0 : Nat) : Option (Bool) := if (FloatKind.f64.format.order a0 13875590451928498176 == some .gt || FloatKind.f64.format.order a0 13875590451928498176 == some .eq) = true then (some (FloatKind.f64.format.order a0 4652218415073722368 == some .lt || FloatKind.f64.format.order a0 4652218415073722368 == some .eq)) else (some false)
def grid_On.f (a0 : Nat) : Option (Bool) := (grid_within.f a0).bind fun t194 => (if t194 = true then ((floatBits .mul .f64 a0 4661225614328463360).bind fun t195 => ((math_Floor.f t195).bind fun t196 => (some (FloatKind.f64.format.order t196 t195 == some .eq)))) else (some false))
def feedback_times.f (a0 : (Nat × Nat)) (a1 : (Nat × Nat)) : Option (Nat × Nat) := (floatBits .mul .f64 a0.1 a1.1).bind fun t197 => ((floatBits .mul .f64 a0.2 a1.2).bind fun t198 => ((floatBits .sub .f64 t197 t198).bind fun t199 => ((floatBits .mul .f64 a0.1 a1.2).bind fun t200 => ((floatBits .mul .f64 a0.2 a1.1).bind fun t201 => ((floatBits .add .f64 t200 t201).bind fun t202 => (some (t199, t202)))))))
mutual
def feedback_Echo.l0 : Nat → List (Nat × Nat) → List (Nat × Nat) → List (Nat × Nat) → Int → Int → Option (List (Nat × Nat) × Int)
  | 0, _, _, _, _, _ => none
  | k + 1, x0, x1, x24, x25, x26 => if x26 < x25 then (if 0 ≤ x26 then (if x26 < (x24.length : Int) then ((grid_On.f ((rdOf (0, 0) x24 x26).1)).bind fun t205 => (if t205 = true then ((grid_On.f ((rdOf (0, 0) x24 x26).2)).bind fun t206 => (if t206 = true then (feedback_Echo.l0 k x0 x1 x24 x25 (wrap64 (x26 + 1))) else (some (([] : List (Nat × Nat)), 7)))) else (some (([] : List (Nat × Nat)), 7)))) else (none)) else (none)) else (if 0 ≤ (x1.length : Int) then (if ((x1.length : Int) : Int).toNat ≤ 17592186044416 then (feedback_Echo.l1 k x0 x1 (List.replicate 0 ((0, 0) : Nat × Nat)) (x1.length : Int) 0) else (none)) else (none))
def feedback_Echo.l1 : Nat → List (Nat × Nat) → List (Nat × Nat) → List (Nat × Nat) → Int → Int → Option (List (Nat × Nat) × Int)
  | 0, _, _, _, _, _ => none
  | k + 1, x0, x1, x8, x45, x46 => if x46 < x45 then (if 0 ≤ (mn (x0.length : Int) (wrap64 (x46 + 1))) then (if (mn (x0.length : Int) (wrap64 (x46 + 1))) ≤ (x0.length : Int) then (feedback_Echo.l2 k x0 x1 x8 x46 0 0 x45 x46 (x0.take ((mn (x0.length : Int) (wrap64 (x46 + 1))) : Int).toNat) ((x0.take ((mn (x0.length : Int) (wrap64 (x46 + 1))) : Int).toNat).length : Int) 0) else (none)) else (none)) else (some (x8, 0))
def feedback_Echo.l2 : Nat → List (Nat × Nat) → List (Nat × Nat) → List (Nat × Nat) → Int → Nat → Nat → Int → Int → List (Nat × Nat) → Int → Int → Option (List (Nat × Nat) × Int)
  | 0, _, _, _, _, _, _, _, _, _, _, _ => none
  | k + 1, x0, x1, x8, x9, x10, x11, x45, x46, x55, x56, x57 => if x57 < x56 then (if 0 ≤ x57 then (if x57 < (x55.length : Int) then (if 0 ≤ (wrap64 (x9 - x57)) then (if (wrap64 (x9 - x57)) < (x1.length : Int) then ((feedback_times.f (rdOf (0, 0) x55 x57) (rdOf (0, 0) x1 (wrap64 (x9 - x57)))).bind fun bt213 => ((floatBits .add .f64 x10 bt213.1).bind fun t215 => ((floatBits .add .f64 x11 bt213.2).bind fun t216 => (feedback_Echo.l2 k x0 x1 x8 x9 t215 t216 x45 x46 x55 x56 (wrap64 (x57 + 1)))))) else (none)) else (none)) else (none)) else (none)) else (if x8.length < 8796093022208 then (feedback_Echo.l1 k x0 x1 (x8 ++ [(x10, x11)]) x45 (wrap64 (x46 + 1))) else (none))
end
def feedback_Echo.f (k : Nat) (l0 : List (Nat × Nat)) (l1 : List (Nat × Nat)) : Option (List (Nat × Nat) × Int) := (feedback_taps.f k l0).bind fun t203 => (if t203 = true then (if (l1.length : Int) > 65536 then (some (([] : List (Nat × Nat)), 1)) else (feedback_Echo.l0 k l0 l1 l1 (l1.length : Int) 0)) else (some (([] : List (Nat × Nat)), 8)))
def feedback_turned.l0 : Nat → (Nat × Nat) → Int → Int → Option ((Nat × Nat))
  | 0, _, _, _ => none
  | k + 1, x0, x5, x6 => if x6 < x5 then (feedback_turned.l0 k (x0.2, Op.negFloat .f64 x0.1) x5 (wrap64 (x6 + 1))) else (some x0)
def feedback_turned.f (k : Nat) (a0 : (Nat × Nat)) (a1 : Int) : Option ((Nat × Nat)) := feedback_turned.l0 k a0 a1 0
theorem feedback_turned.mono_l : ∀ k, (∀ y0 y1 y2, LeO (feedback_turned.l0 k y0 y1 y2) (feedback_turned.l0 (k + 1) y0 y1 y2))
  | 0 => fun _ _ _ r h => by simp [feedback_turned.l0] at h
  | k + 1 => by
    have ih0 := feedback_turned.mono_l k
    · intro y0 y1 y2
      unfold feedback_turned.l0
      repeat' first
      | (with_reducible exact ih0 _ _ _)
      | (with_reducible exact LeO.refl _)
      | (with_reducible exact LeO.none _)
      | (with_reducible refine LeO.ite ?_ ?_)
      | (with_reducible refine LeO.bind ?_ (fun _ => ?_))
      | exact ih0 _ _ _
      | exact LeO.none _
      | refine LeO.ite ?_ ?_
      | refine LeO.bind ?_ (fun _ => ?_)
theorem feedback_turned.mono : ∀ a0 a1 k, LeO (feedback_turned.f k a0 a1) (feedback_turned.f (k + 1) a0 a1) := by
  intro a0 a1 k
  have ih0 := feedback_turned.mono_l k
  unfold feedback_turned.f
  repeat' first
      | (with_reducible exact ih0 _ _ _)
      | (with_reducible exact LeO.refl _)
      | (with_reducible exact LeO.none _)
      | (with_reducible refine LeO.ite ?_ ?_)
      | (with_reducible refine LeO.bind ?_ (fun _ => ?_))
      | exact ih0 _ _ _
      | exact LeO.none _
      | refine LeO.ite ?_ ?_
      | refine LeO.bind ?_ (fun _ => ?_)
def feedback_first.l0 : Nat → (Nat × Nat) → Int → Option (Nat × Int × Bool)
  | 0, _, _ => none
  | k + 1, x0, x7 => if x7 < 4 then ((feedback_turned.f k x0 x7).bind fun t220 => (if (FloatKind.f64.format.order t220.2 0 == some .eq) = true then (if (FloatKind.f64.format.order t220.1 4607182418800017408 == some .eq) = true then (some (t220.1, x7, true)) else (if (FloatKind.f64.format.order t220.1 4602678819172646912 == some .eq) = true then (some (t220.1, x7, true)) else (if (FloatKind.f64.format.order t220.1 4598175219545276416 == some .eq) = true then (some (t220.1, x7, true)) else (feedback_first.l0 k x0 (wrap64 (x7 + 1)))))) else (feedback_first.l0 k x0 (wrap64 (x7 + 1))))) else (some (0, 0, false))
def feedback_first.f (k : Nat) (a0 : (Nat × Nat)) : Option (Nat × Int × Bool) := feedback_first.l0 k a0 0
theorem feedback_first.mono_l : ∀ k, (∀ y0 y1, LeO (feedback_first.l0 k y0 y1) (feedback_first.l0 (k + 1) y0 y1))
  | 0 => fun _ _ r h => by simp [feedback_first.l0] at h
  | k + 1 => by
    have ih0 := feedback_first.mono_l k
    · intro y0 y1
      unfold feedback_first.l0
      repeat' first
      | (with_reducible exact ih0 _ _)
      | (with_reducible exact feedback_turned.mono _ _ _)
      | (with_reducible exact LeO.refl _)
      | (with_reducible exact LeO.none _)
      | (with_reducible refine LeO.ite ?_ ?_)
      | (with_reducible refine LeO.bind ?_ (fun _ => ?_))
      | exact ih0 _ _
      | exact feedback_turned.mono _ _ _
      | exact LeO.none _
      | refine LeO.ite ?_ ?_
      | refine LeO.bind ?_ (fun _ => ?_)
theorem feedback_first.mono : ∀ a0 k, LeO (feedback_first.f k a0) (feedback_first.f (k + 1) a0) := by
  intro a0 k
  have ih0 := feedback_first.mono_l k
  unfold feedback_first.f
  repeat' first
      | (with_reducible exact ih0 _ _)
      | (with_reducible exact feedback_turned.mono _ _ _)
      | (with_reducible exact LeO.refl _)
      | (with_reducible exact LeO.none _)
      | (with_reducible refine LeO.ite ?_ ?_)
      | (with_reducible refine LeO.bind ?_ (fun _ => ?_))
      | exact ih0 _ _
      | exact feedback_turned.mono _ _ _
      | exact LeO.none _
      | refine LeO.ite ?_ ?_
      | refine LeO.bind ?_ (fun _ => ?_)
def feedback_Check.f (k : Nat) (l0 : List (Nat × Nat)) : Option (Int) := (feedback_taps.f k l0).bind fun t221 => (if t221 = true then (if 0 < (l0.length : Int) then ((feedback_first.f k (rdOf (0, 0) l0 0)).bind fun bt223 => (if bt223.2.2 = true then (some 0) else (some 110))) else (none)) else (some 8))
theorem feedback_Check.mono : ∀ a0 k, LeO (feedback_Check.f k a0) (feedback_Check.f (k + 1) a0) := by
  intro a0 k
  unfold feedback_Check.f
  repeat' first
      | (with_reducible exact feedback_first.mono _ _)
      | (with_reducible exact feedback_taps.mono _ _)
      | (with_reducible exact LeO.refl _)
      | (with_reducible exact LeO.none _)
      | (with_reducible refine LeO.ite ?_ ?_)
      | (with_reducible refine LeO.bind ?_ (fun _ => ?_))
      | exact feedback_first.mono _ _
      | exact feedback_taps.mono _ _
      | exact LeO.none _
      | refine LeO.ite ?_ ?_
      | refine LeO.bind ?_ (fun _ => ?_)
def foghornref11_Turn.l0 : Nat → (Nat × Nat) → Int → Int → Option ((Nat × Nat))
  | 0, _, _, _ => none
  | k + 1, x0, x1, x5 => if x5 < x1 then (foghornref11_Turn.l0 k (Op.negFloat .f64 x0.2, x0.1) x1 (wrap64 (x5 + 1))) else (some x0)
def foghornref11_Turn.f (k : Nat) (a0 : (Nat × Nat)) (a1 : Int) : Option ((Nat × Nat)) := foghornref11_Turn.l0 k a0 a1 0
theorem foghornref11_Turn.mono_l : ∀ k, (∀ y0 y1 y2, LeO (foghornref11_Turn.l0 k y0 y1 y2) (foghornref11_Turn.l0 (k + 1) y0 y1 y2))
  | 0 => fun _ _ _ r h => by simp [foghornref11_Turn.l0] at h
  | k + 1 => by
    have ih0 := foghornref11_Turn.mono_l k
    · intro y0 y1 y2
      unfold foghornref11_Turn.l0
      repeat' first
      | (with_reducible exact ih0 _ _ _)
      | (with_reducible exact LeO.refl _)
      | (with_reducible exact LeO.none _)
      | (with_reducible refine LeO.ite ?_ ?_)
      | (with_reducible refine LeO.bind ?_ (fun _ => ?_))
      | exact ih0 _ _ _
      | exact LeO.none _
      | refine LeO.ite ?_ ?_
      | refine LeO.bind ?_ (fun _ => ?_)
theorem foghornref11_Turn.mono : ∀ a0 a1 k, LeO (foghornref11_Turn.f k a0 a1) (foghornref11_Turn.f (k + 1) a0 a1) := by
  intro a0 a1 k
  have ih0 := foghornref11_Turn.mono_l k
  unfold foghornref11_Turn.f
  repeat' first
      | (with_reducible exact ih0 _ _ _)
      | (with_reducible exact LeO.refl _)
      | (with_reducible exact LeO.none _)
      | (with_reducible refine LeO.ite ?_ ?_)
      | (with_reducible refine LeO.bind ?_ (fun _ => ?_))
      | exact ih0 _ _ _
      | exact LeO.none _
      | refine LeO.ite ?_ ?_
      | refine LeO.bind ?_ (fun _ => ?_)
mutual
def foghornref11_First.l0 : Nat → (Nat × Nat) → List Nat → Int → Int → Option (Nat × Int)
  | 0, _, _, _, _ => none
  | k + 1, x0, x7, x8, x9 => if x9 < x8 then (if 0 ≤ x9 then (if x9 < (x7.length : Int) then (foghornref11_First.l1 k x0 (rdOf 0 x7 x9) 0 x7 x8 x9) else (none)) else (none)) else (some (0, 0))
def foghornref11_First.l1 : Nat → (Nat × Nat) → Nat → Int → List Nat → Int → Int → Option (Nat × Int)
  | 0, _, _, _, _, _, _ => none
  | k + 1, x0, x5, x6, x7, x8, x9 => if x6 < 4 then ((foghornref11_Turn.f k (x5, 0) x6).bind fun t230 => (if ((FloatKind.f64.format.order t230.1 x0.1 == some .eq) && (FloatKind.f64.format.order t230.2 x0.2 == some .eq)) = true then (some (x5, x6)) else (foghornref11_First.l1 k x0 x5 (wrap64 (x6 + 1)) x7 x8 x9))) else (foghornref11_First.l0 k x0 x7 x8 (wrap64 (x9 + 1)))
end
def foghornref11_First.f (k : Nat) (a0 : (Nat × Nat)) : Option (Nat × Int) := (some (([4607182418800017408, 4602678819172646912, 4598175219545276416] : List Nat) : List Nat)).bind fun y226 => (foghornref11_First.l0 k a0 y226 (y226.length : Int) 0)
theorem foghornref11_First.mono_l : ∀ k, (∀ y0 y1 y2 y3, LeO (foghornref11_First.l0 k y0 y1 y2 y3) (foghornref11_First.l0 (k + 1) y0 y1 y2 y3)) ∧ (∀ y0 y1 y2 y3 y4 y5, LeO (foghornref11_First.l1 k y0 y1 y2 y3 y4 y5) (foghornref11_First.l1 (k + 1) y0 y1 y2 y3 y4 y5))
  | 0 => ⟨fun _ _ _ _ r h => by simp [foghornref11_First.l0] at h, fun _ _ _ _ _ _ r h => by simp [foghornref11_First.l1] at h⟩
  | k + 1 => by
    obtain ⟨ih0, ih1⟩ := foghornref11_First.mono_l k
    refine ⟨?_, ?_⟩
    · intro y0 y1 y2 y3
      unfold foghornref11_First.l0
      repeat' first
      | (with_reducible exact ih0 _ _ _ _)
      | (with_reducible exact ih1 _ _ _ _ _ _)
      | (with_reducible exact foghornref11_Turn.mono _ _ _)
      | (with_reducible exact LeO.refl _)
      | (with_reducible exact LeO.none _)
      | (with_reducible refine LeO.ite ?_ ?_)
      | (with_reducible refine LeO.bind ?_ (fun _ => ?_))
      | exact ih0 _ _ _ _
      | exact ih1 _ _ _ _ _ _
      | exact foghornref11_Turn.mono _ _ _
      | exact LeO.none _
      | refine LeO.ite ?_ ?_
      | refine LeO.bind ?_ (fun _ => ?_)
    · intro y0 y1 y2 y3 y4 y5
      unfold foghornref11_First.l1
      repeat' first
      | (with_reducible exact ih0 _ _ _ _)
      | (with_reducible exact ih1 _ _ _ _ _ _)
      | (with_reducible exact foghornref11_Turn.mono _ _ _)
      | (with_reducible exact LeO.refl _)
      | (with_reducible exact LeO.none _)
      | (with_reducible refine LeO.ite ?_ ?_)
      | (with_reducible refine LeO.bind ?_ (fun _ => ?_))
      | exact ih0 _ _ _ _
      | exact ih1 _ _ _ _ _ _
      | exact foghornref11_Turn.mono _ _ _
      | exact LeO.none _
      | refine LeO.ite ?_ ?_
      | refine LeO.bind ?_ (fun _ => ?_)
theorem foghornref11_First.mono : ∀ a0 k, LeO (foghornref11_First.f k a0) (foghornref11_First.f (k + 1) a0) := by
  intro a0 k
  obtain ⟨ih0, ih1⟩ := foghornref11_First.mono_l k
  unfold foghornref11_First.f
  repeat' first
      | (with_reducible exact ih0 _ _ _ _)
      | (with_reducible exact ih1 _ _ _ _ _ _)
      | (with_reducible exact foghornref11_Turn.mono _ _ _)
      | (with_reducible exact LeO.refl _)
      | (with_reducible exact LeO.none _)
      | (with_reducible refine LeO.ite ?_ ?_)
      | (with_reducible refine LeO.bind ?_ (fun _ => ?_))
      | exact ih0 _ _ _ _
      | exact ih1 _ _ _ _ _ _
      | exact foghornref11_Turn.mono _ _ _
      | exact LeO.none _
      | refine LeO.ite ?_ ?_
      | refine LeO.bind ?_ (fun _ => ?_)
def foghornref11_Check.f (k : Nat) (l0 : List (Nat × Nat)) : Option (Int) := (foghornref11_Taps.f k l0).bind fun t231 => (if t231 = true then (if 0 < (l0.length : Int) then ((foghornref11_First.f k (rdOf (0, 0) l0 0)).bind fun bt233 => (if (FloatKind.f64.format.order bt233.1 0 == some .eq) = true then (some 110) else (some 0))) else (none)) else (some 8))
def foghornref11_Same.l0 : Nat → List (Nat × Nat) → List (Nat × Nat) → Int → Option (Bool)
  | 0, _, _, _ => none
  | k + 1, x0, x1, x5 => if x5 < (x0.length : Int) then (if 0 ≤ x5 then (if x5 < (x1.length : Int) then (if (!((FloatKind.f64.format.order ((rdOf (0, 0) x0 x5).1) ((rdOf (0, 0) x1 x5).1) == some .eq) && (FloatKind.f64.format.order ((rdOf (0, 0) x0 x5).2) ((rdOf (0, 0) x1 x5).2) == some .eq))) = true then (some false) else (foghornref11_Same.l0 k x0 x1 (wrap64 (x5 + 1)))) else (none)) else (none)) else (some true)
def foghornref11_Same.f (k : Nat) (l0 : List (Nat × Nat)) (l1 : List (Nat × Nat)) : Option (Bool) := if (l0.length : Int) = (l1.length : Int) then (foghornref11_Same.l0 k l0 l1 0) else (some false)
mutual
def foghornlaw11_fresh.j0 : Nat → List (Nat × Nat) → List (Nat × Nat) → List (Nat × Nat) → Bool → Option (Bool)
  | 0, _, _, _, _ => none
  | k + 1, x0, x1, x2, x18 => if x18 = true then (some false) else (foghornlaw11_fresh.l0 k x0 x1 x2 0)
def foghornlaw11_fresh.l0 : Nat → List (Nat × Nat) → List (Nat × Nat) → List (Nat × Nat) → Int → Option (Bool)
  | 0, _, _, _, _ => none
  | k + 1, x0, x1, x2, x7 => if x7 < (x0.length : Int) then (if 0 ≤ x7 then (foghornlaw11_fresh.l0 k (x0.set (x7 : Int).toNat (4648093047446306816, 0)) x1 x2 (wrap64 (x7 + 1))) else (none)) else (foghornlaw11_fresh.l1 k x0 x1 x2 0)
def foghornlaw11_fresh.l1 : Nat → List (Nat × Nat) → List (Nat × Nat) → List (Nat × Nat) → Int → Option (Bool)
  | 0, _, _, _, _ => none
  | k + 1, x0, x1, x2, x8 => if x8 < 20 then (if x0.length < 8796093022208 then (foghornlaw11_fresh.l1 k (x0 ++ [(4649069413771771904, 0)]) x1 x2 (wrap64 (x8 + 1))) else (none)) else ((foghornref11_Same.f k x1 x2).bind fun t243 => (if t243 = true then (some ((x0.length : Int) == (wrap64 ((x2.length : Int) + 20)))) else (some false)))
end
def foghornlaw11_fresh.f (k : Nat) (l0 : List (Nat × Nat)) (l1 : List (Nat × Nat)) (l2 : List (Nat × Nat)) : Option (Bool) := (foghornref11_Same.f k l0 l2).bind fun t237 => (if t237 = true then ((foghornref11_Same.f k l1 l2).bind fun t238 => (foghornlaw11_fresh.j0 k l0 l1 l2 (!t238))) else (foghornlaw11_fresh.j0 k l0 l1 l2 true))
mutual
def foghornlaw11_FeedbackEchoes.j0 : Nat → List (Nat × Nat) → List (Nat × Nat) → Bool → Option (Bool)
  | 0, _, _, _ => none
  | k + 1, x5, x6, x88 => if x88 = true then (some false) else (foghornlaw11_FeedbackEchoes.l0 k x5 x6 0)
def foghornlaw11_FeedbackEchoes.l0 : Nat → List (Nat × Nat) → List (Nat × Nat) → Int → Option (Bool)
  | 0, _, _, _ => none
  | k + 1, x5, x6, x13 => if x13 < (x6.length : Int) then (if 0 ≤ x13 then (foghornlaw11_FeedbackEchoes.l0 k x5 (x6.set (x13 : Int).toNat ((rdOf (0, 0) x6 x13).2, (rdOf (0, 0) x6 x13).1)) (wrap64 (x13 + 1))) else (none)) else ((foghornref11_Echo.f k x5 x6).bind fun bt282 => ((feedback_Echo.f k x5 x6).bind fun bt286 => (if bt286.2 = bt282.2 then ((foghornref11_Same.f k bt286.1 bt282.1).bind fun t290 => (some t290)) else (some false))))
end
def foghornlaw11_FeedbackEchoes.f (k : Nat) (l0 : List (S174)) (l1 : List (S146)) : Option (Bool) := (foghornlaw11_taps.f k l0).bind fun t244 => ((foghornlaw11_numbers.f k l1).bind fun t247 => ((foghornref11_Echo.f k t244 t247).bind fun bt250 => ((feedback_Echo.f k t244 t247).bind fun bt254 => ((feedback_Echo.f k t244 t247).bind fun bt258 => ((feedback_Check.f k t244).bind fun t262 => ((foghornref11_Check.f k t244).bind fun t263 => (if t262 = t263 then (if bt254.2 = bt250.2 then (if bt258.2 = bt250.2 then ((foghornlaw11_fresh.f k bt254.1 bt258.1 bt250.1).bind fun t264 => (if t264 = true then (if (wrap64 ((l0.length : Int) + 1)) = (t244.length : Int) + 1 then ((some (t244 ++ [(4651892959631900672, 0)] : List (Nat × Nat))).bind fun y265 => (if 0 ≤ (l0.length : Int) then (if (l0.length : Int) < (y265.length : Int) then (if (!((FloatKind.f64.format.order ((rdOf (0, 0) y265 (l0.length : Int)).1) 4651892959631900672 == some .eq) && (FloatKind.f64.format.order ((rdOf (0, 0) y265 (l0.length : Int)).2) 0 == some .eq))) = true then (foghornlaw11_FeedbackEchoes.j0 k t244 t247 true) else (if (wrap64 ((l1.length : Int) + 1)) = (t247.length : Int) + 1 then ((some (t247 ++ [(4651892959631900672, 0)] : List (Nat × Nat))).bind fun y270 => (if 0 ≤ (l1.length : Int) then (if (l1.length : Int) < (y270.length : Int) then (if (!((FloatKind.f64.format.order ((rdOf (0, 0) y270 (l1.length : Int)).1) 4651892959631900672 == some .eq) && (FloatKind.f64.format.order ((rdOf (0, 0) y270 (l1.length : Int)).2) 0 == some .eq))) = true then (foghornlaw11_FeedbackEchoes.j0 k t244 t247 true) else ((foghornlaw11_numbers.f k l1).bind fun t275 => ((foghornref11_Same.f k t247 t275).bind fun t278 => (foghornlaw11_FeedbackEchoes.j0 k t244 t247 (!t278))))) else (none)) else (none))) else (none))) else (none)) else (none))) else (none)) else (foghornlaw11_FeedbackEchoes.j0 k t244 t247 true))) else (foghornlaw11_FeedbackEchoes.j0 k t244 t247 true)) else (foghornlaw11_FeedbackEchoes.j0 k t244 t247 true)) else (foghornlaw11_FeedbackEchoes.j0 k t244 t247 true))))))))
def foghornlaw11_FeedbackEchoes.Pure : Prop := ∀ (l0 : List (S174)) (l1 : List (S146)), (l0.length * 24 ≤ 140737488351232 ∧ ∀ x ∈ l0, (fun y_ : S174 => ((Lit.int .i64 y_.f0).wf = true) ∧ ((Lit.int .i64 y_.f1).wf = true) ∧ (True)) x) → (l1.length * 12 ≤ 140737488351232 ∧ ∀ x ∈ l1, (fun y_ : S146 => ((Lit.int .i32 y_.f0).wf = true) ∧ ((Lit.int .i32 y_.f1).wf = true) ∧ (True)) x) → ∃ k, foghornlaw11_FeedbackEchoes.f k l0 l1 = some true
def pts_axis (edge word : Int) : Option Nat := (bits_Ungray.f 9 word).bind fun p => some (floatOfInt .f64 (wrap64 (wrap64 (2 * p.1) - edge)))
def pts_high (edge most a : Int) : Int := if most < (if a < wrap64 (-a) then wrap64 (-a) else a) then most else edge
def pts_crf (edge most : Int) : Nat → Int → Int → Option (Nat × Nat)
  | 0, _, _ => none
  | k + 1, a, l => if l ≤ pts_high edge most a then some (floatOfInt .f64 a, floatOfInt .f64 (wrap64 (wrap64 (2 * l) - pts_high edge most a))) else pts_crf edge most k (wrap64 (a + 2)) (wrap64 (l - wrap64 (pts_high edge most a + 1)))
def pts_sqf (d m edge label : Int) : Option (Nat × Nat) := (pts_axis edge (label / d)).bind fun p => (pts_axis edge (Go.bits .and .i64 label m)).bind fun q => some (p, q)
def pts_crF (edge most label : Int) : Option (Nat × Nat) := pts_crf edge most 40 (wrap64 (-edge)) label
def pts_spec (size : Int) : Option (Int × Int × (Int → Option (Nat × Nat))) :=
  if size = 4 then some (2, 1, pts_sqf 2 1 1) else if size = 16 then some (4, 3, pts_sqf 4 3 3) else if size = 32 then some (5, 5, pts_crF 5 3) else if size = 64 then some (6, 7, pts_sqf 8 7 7) else if size = 128 then some (7, 11, pts_crF 11 7) else if size = 256 then some (8, 15, pts_sqf 16 15 15) else none
def pts_all (F : Int → Option (Nat × Nat)) : Nat → Option (List (Nat × Nat))
  | 0 => some []
  | n + 1 => (pts_all F n).bind fun l => (F (n : Int)).bind fun r => some (l ++ [r])
def points_All.f (a0 : Int) : Option (List (Nat × Nat) × Int) := match pts_spec a0 with
  | none => some ([], 1)
  | some x => (pts_all x.2.2 a0.toNat).bind fun l => some (l, 0)
def math_Inf.f (a0 : Int) : Option (Nat) := if a0 ≥ 0 then (some 9218868437227405312) else (some 18442240474082181120)
def foghornlaw05_number.f (a0 : Int) (a1 : Int) : Option ((Nat × Nat)) := some (a0.toNat, a1.toNat)
mutual
def foghornref05_Axis.j0 : Nat → Nat → Int → Bool → Option (Int × Int)
  | 0, _, _, _ => none
  | k + 1, x0, x1, x22 => if x22 = true then (some (0, 1)) else (foghornref05_Axis.l0 k x0 x1 (wrap64 (-x1)))
def foghornref05_Axis.l0 : Nat → Nat → Int → Int → Option (Int × Int)
  | 0, _, _, _ => none
  | k + 1, x0, x1, x6 => if x6 < x1 then (if (FloatKind.f64.format.order x0 (floatOfInt .f64 (wrap64 (x6 + 1))) == some .gt) = true then (foghornref05_Axis.l0 k x0 x1 (wrap64 (x6 + 2))) else (some (x6, 0))) else (some (x6, 0))
end
def foghornref05_Axis.f (k : Nat) (a0 : Nat) (a1 : Int) : Option (Int × Int) := if a1 < 1 then (foghornref05_Axis.j0 k a0 a1 true) else (if a1 > 15 then (foghornref05_Axis.j0 k a0 a1 true) else (if (Int.tmod a1 2) = 0 then (foghornref05_Axis.j0 k a0 a1 true) else (foghornref05_Axis.j0 k a0 a1 (FloatKind.f64.format.order a0 a0 != some .eq))))
def math_Max.f (a0 : Nat) (a1 : Nat) : Option (Nat) := some (pickF false .gt a0 a1)
def math_Min.f (a0 : Nat) (a1 : Nat) : Option (Nat) := some (pickF true .lt a0 a1)
def math_Ceil.f (a0 : Nat) : Option (Nat) := (integF .up a0).bind fun t487 => (some t487)
def slice_Axis.j0 : Nat → Nat → Int → Bool → Option (Int × Int)
  | 0, _, _, _ => none
  | k + 1, x0, x1, x21 => if x21 = true then (some (0, 1)) else ((math_Min.f x0 (floatOfInt .f64 x1)).bind fun t489 => ((math_Max.f (Op.negFloat .f64 (floatOfInt .f64 x1)) t489).bind fun t490 => ((math_Ceil.f t490).bind fun t491 => ((floatToIntVal .f64 t491 .i64).bind fun t492 => (if (Int.tmod t492 2) = 0 then (some (mx (wrap64 (t492 - 1)) (wrap64 (-x1)), 0)) else (some (mx t492 (wrap64 (-x1)), 0)))))))
def slice_Axis.f (k : Nat) (a0 : Nat) (a1 : Int) : Option (Int × Int) := if a1 < 1 then (slice_Axis.j0 k a0 a1 true) else (if a1 > 15 then (slice_Axis.j0 k a0 a1 true) else (if (Int.tmod a1 2) = 0 then (slice_Axis.j0 k a0 a1 true) else ((math_IsNaN.f a0).bind fun t488 => (slice_Axis.j0 k a0 a1 t488))))
theorem slice_Axis.mono_l : ∀ k, (∀ y0 y1 y2, LeO (slice_Axis.j0 k y0 y1 y2) (slice_Axis.j0 (k + 1) y0 y1 y2))
  | 0 => fun _ _ _ r h => by simp [slice_Axis.j0] at h
  | k + 1 => by
    have ih0 := slice_Axis.mono_l k
    · intro y0 y1 y2
      unfold slice_Axis.j0
      repeat' first
      | (with_reducible exact ih0 _ _ _)
      | (with_reducible exact LeO.refl _)
      | (with_reducible exact LeO.none _)
      | (with_reducible refine LeO.ite ?_ ?_)
      | (with_reducible refine LeO.bind ?_ (fun _ => ?_))
      | exact ih0 _ _ _
      | exact LeO.none _
      | refine LeO.ite ?_ ?_
      | refine LeO.bind ?_ (fun _ => ?_)
theorem slice_Axis.mono : ∀ a0 a1 k, LeO (slice_Axis.f k a0 a1) (slice_Axis.f (k + 1) a0 a1) := by
  intro a0 a1 k
  have ih0 := slice_Axis.mono_l k
  unfold slice_Axis.f
  repeat' first
      | (with_reducible exact ih0 _ _ _)
      | (with_reducible exact LeO.refl _)
      | (with_reducible exact LeO.none _)
      | (with_reducible refine LeO.ite ?_ ?_)
      | (with_reducible refine LeO.bind ?_ (fun _ => ?_))
      | exact ih0 _ _ _
      | exact LeO.none _
      | refine LeO.ite ?_ ?_
      | refine LeO.bind ?_ (fun _ => ?_)
def foghornref04_Edge.f (a0 : Int) : Option (Int × Int) := if a0 = 4 then (some (1, 0)) else (if a0 = 16 then (some (3, 0)) else (if a0 = 32 then (some (5, 0)) else (if a0 = 64 then (some (7, 0)) else (if a0 = 128 then (some (11, 0)) else (if a0 = 256 then (some (15, 0)) else (some (0, 1)))))))
def foghornref05_cut.f (a0 : Nat) (a1 : Int) : Option (Nat) := if (FloatKind.f64.format.order a0 (Op.negFloat .f64 (floatOfInt .f64 a1)) == some .lt) = true then (some (Op.negFloat .f64 (floatOfInt .f64 a1))) else (if (FloatKind.f64.format.order a0 (floatOfInt .f64 a1) == some .gt) = true then (some (floatOfInt .f64 a1)) else (some a0))
def foghornref05_Cut.j0 : Nat → (Nat × Nat) → Int → Bool → Option ((Nat × Nat) × Int)
  | 0, _, _, _ => none
  | k + 1, x1, x6, x28 => if x28 = true then (some ((0, 0), 1)) else ((foghornref05_cut.f x1.1 x6).bind fun t495 => ((foghornref05_cut.f x1.2 x6).bind fun t496 => (some ((t495, t496), 0))))
def foghornref05_Cut.f (k : Nat) (a0 : Int) (a1 : (Nat × Nat)) : Option ((Nat × Nat) × Int) := (foghornref04_Edge.f a0).bind fun bt493 => (if bt493.2 = 0 then (if (FloatKind.f64.format.order a1.1 a1.1 != some .eq) = true then (foghornref05_Cut.j0 k a1 bt493.1 true) else (foghornref05_Cut.j0 k a1 bt493.1 (FloatKind.f64.format.order a1.2 a1.2 != some .eq))) else (foghornref05_Cut.j0 k a1 bt493.1 true))
def points_Edge.f (a0 : Int) : Option (Int × Int) := match pts_spec a0 with
  | none => some (0, 1)
  | some x => some (x.2.1, 0)
def slice_nan.f (a0 : (Nat × Nat)) : Option (Bool) := (math_IsNaN.f a0.1).bind fun t497 => (if t497 = true then (some true) else ((math_IsNaN.f a0.2).bind fun t498 => (some t498)))
def slice_cut.f (a0 : (Nat × Nat)) (a1 : Int) : Option ((Nat × Nat)) := (math_Min.f a0.1 (floatOfInt .f64 a1)).bind fun t499 => ((math_Max.f (Op.negFloat .f64 (floatOfInt .f64 a1)) t499).bind fun t500 => ((math_Min.f a0.2 (floatOfInt .f64 a1)).bind fun t501 => ((math_Max.f (Op.negFloat .f64 (floatOfInt .f64 a1)) t501).bind fun t502 => (some (t500, t502)))))
def slice_Cut.f (a0 : Int) (a1 : (Nat × Nat)) : Option ((Nat × Nat) × Int) := (points_Edge.f a0).bind fun bt503 => (if bt503.2 = 0 then ((slice_nan.f a1).bind fun t505 => (if t505 = true then (some ((0, 0), 1)) else ((slice_cut.f a1 bt503.1).bind fun t506 => (some (t506, 0))))) else (some ((0, 0), 1)))
def foghornref04_size.f (a0 : Int) : Option (Int) := if a0 < 0 then (some (wrap64 (-a0))) else (some a0)
mutual
def foghornref04_in.j0 : Nat → Int → Bool → Int → Int → Option (Bool)
  | 0, _, _, _, _ => none
  | k + 1, x0, x39, x508000, x508001 => if x39 = true then (some false) else (if x0 = 32 then ((foghornref04_size.f x508000).bind fun t512 => (if t512 = 5 then ((foghornref04_size.f x508001).bind fun t513 => (foghornref04_in.j1 k x0 (t513 == 5) x508000 x508001)) else (foghornref04_in.j1 k x0 false x508000 x508001))) else (foghornref04_in.j1 k x0 false x508000 x508001))
def foghornref04_in.j1 : Nat → Int → Bool → Int → Int → Option (Bool)
  | 0, _, _, _, _ => none
  | k + 1, x0, x53, x508000, x508001 => if x53 = true then (some false) else (if x0 = 128 then ((foghornref04_size.f x508000).bind fun t514 => (if t514 ≤ 7 then (some true) else ((foghornref04_size.f x508001).bind fun t515 => (some (decide (t515 ≤ 7)))))) else (some true))
end
def foghornref04_in.f (k : Nat) (a0 : Int) (a1_0 : Int) (a1_1 : Int) : Option (Bool) := (foghornref04_Edge.f a0).bind fun bt508 => (if bt508.2 = 0 then (if (Int.tmod a1_0 2) = 0 then (foghornref04_in.j0 k a0 true a1_0 a1_1) else (if (Int.tmod a1_1 2) = 0 then (foghornref04_in.j0 k a0 true a1_0 a1_1) else ((foghornref04_size.f a1_0).bind fun t510 => (if t510 > bt508.1 then (foghornref04_in.j0 k a0 true a1_0 a1_1) else ((foghornref04_size.f a1_1).bind fun t511 => (foghornref04_in.j0 k a0 (decide (t511 > bt508.1)) a1_0 a1_1)))))) else (foghornref04_in.j0 k a0 true a1_0 a1_1))
theorem foghornref04_in.mono_l : ∀ k, (∀ y0 y1 y2 y3, LeO (foghornref04_in.j0 k y0 y1 y2 y3) (foghornref04_in.j0 (k + 1) y0 y1 y2 y3)) ∧ (∀ y0 y1 y2 y3, LeO (foghornref04_in.j1 k y0 y1 y2 y3) (foghornref04_in.j1 (k + 1) y0 y1 y2 y3))
  | 0 => ⟨fun _ _ _ _ r h => by simp [foghornref04_in.j0] at h, fun _ _ _ _ r h => by simp [foghornref04_in.j1] at h⟩
  | k + 1 => by
    obtain ⟨ih0, ih1⟩ := foghornref04_in.mono_l k
    refine ⟨?_, ?_⟩
    · intro y0 y1 y2 y3
      unfold foghornref04_in.j0
      repeat' first
      | (with_reducible exact ih0 _ _ _ _)
      | (with_reducible exact ih1 _ _ _ _)
      | (with_reducible exact LeO.refl _)
      | (with_reducible exact LeO.none _)
      | (with_reducible refine LeO.ite ?_ ?_)
      | (with_reducible refine LeO.bind ?_ (fun _ => ?_))
      | exact ih0 _ _ _ _
      | exact ih1 _ _ _ _
      | exact LeO.none _
      | refine LeO.ite ?_ ?_
      | refine LeO.bind ?_ (fun _ => ?_)
    · intro y0 y1 y2 y3
      unfold foghornref04_in.j1
      repeat' first
      | (with_reducible exact ih0 _ _ _ _)
      | (with_reducible exact ih1 _ _ _ _)
      | (with_reducible exact LeO.refl _)
      | (with_reducible exact LeO.none _)
      | (with_reducible refine LeO.ite ?_ ?_)
      | (with_reducible refine LeO.bind ?_ (fun _ => ?_))
      | exact ih0 _ _ _ _
      | exact ih1 _ _ _ _
      | exact LeO.none _
      | refine LeO.ite ?_ ?_
      | refine LeO.bind ?_ (fun _ => ?_)
theorem foghornref04_in.mono : ∀ a0 a1 a2 k, LeO (foghornref04_in.f k a0 a1 a2) (foghornref04_in.f (k + 1) a0 a1 a2) := by
  intro a0 a1 a2 k
  obtain ⟨ih0, ih1⟩ := foghornref04_in.mono_l k
  unfold foghornref04_in.f
  repeat' first
      | (with_reducible exact ih0 _ _ _ _)
      | (with_reducible exact ih1 _ _ _ _)
      | (with_reducible exact LeO.refl _)
      | (with_reducible exact LeO.none _)
      | (with_reducible refine LeO.ite ?_ ?_)
      | (with_reducible refine LeO.bind ?_ (fun _ => ?_))
      | exact ih0 _ _ _ _
      | exact ih1 _ _ _ _
      | exact LeO.none _
      | refine LeO.ite ?_ ?_
      | refine LeO.bind ?_ (fun _ => ?_)
def foghornref04_Bits.f (a0 : Int) : Option (Int × Int) := if a0 = 4 then (some (2, 0)) else (if a0 = 16 then (some (4, 0)) else (if a0 = 32 then (some (5, 0)) else (if a0 = 64 then (some (6, 0)) else (if a0 = 128 then (some (7, 0)) else (if a0 = 256 then (some (8, 0)) else (some (0, 1)))))))
def foghornref01_power.l0 : Nat → Int → Int → Int → Option (Int)
  | 0, _, _, _ => none
  | k + 1, x0, x3, x4 => if x4 < x0 then (foghornref01_power.l0 k x0 (wrap64 (2 * x3)) (wrap64 (x4 + 1))) else (some x3)
def foghornref01_power.f (k : Nat) (a0 : Int) : Option (Int) := foghornref01_power.l0 k a0 1 0
theorem foghornref01_power.mono_l : ∀ k, (∀ y0 y1 y2, LeO (foghornref01_power.l0 k y0 y1 y2) (foghornref01_power.l0 (k + 1) y0 y1 y2))
  | 0 => fun _ _ _ r h => by simp [foghornref01_power.l0] at h
  | k + 1 => by
    have ih0 := foghornref01_power.mono_l k
    · intro y0 y1 y2
      unfold foghornref01_power.l0
      repeat' first
      | (with_reducible exact ih0 _ _ _)
      | (with_reducible exact LeO.refl _)
      | (with_reducible exact LeO.none _)
      | (with_reducible refine LeO.ite ?_ ?_)
      | (with_reducible refine LeO.bind ?_ (fun _ => ?_))
      | exact ih0 _ _ _
      | exact LeO.none _
      | refine LeO.ite ?_ ?_
      | refine LeO.bind ?_ (fun _ => ?_)
theorem foghornref01_power.mono : ∀ a0 k, LeO (foghornref01_power.f k a0) (foghornref01_power.f (k + 1) a0) := by
  intro a0 k
  have ih0 := foghornref01_power.mono_l k
  unfold foghornref01_power.f
  repeat' first
      | (with_reducible exact ih0 _ _ _)
      | (with_reducible exact LeO.refl _)
      | (with_reducible exact LeO.none _)
      | (with_reducible refine LeO.ite ?_ ?_)
      | (with_reducible refine LeO.bind ?_ (fun _ => ?_))
      | exact ih0 _ _ _
      | exact LeO.none _
      | refine LeO.ite ?_ ?_
      | refine LeO.bind ?_ (fun _ => ?_)
def foghornref01_gray.l0 : Nat → Int → Int → Int → Option (Int)
  | 0, _, _, _ => none
  | k + 1, x0, x3, x4 => if x4 < 16 then ((foghornref01_power.f k x4).bind fun t516 => (if t516 = 0 then (none) else ((foghornref01_power.f k (wrap64 (x4 + 1))).bind fun t517 => (if t517 = 0 then (none) else (if (Int.tmod (wrap64 (Int.tdiv x0 t516)) 2) = (Int.tmod (wrap64 (Int.tdiv x0 t517)) 2) then (foghornref01_gray.l0 k x0 x3 (wrap64 (x4 + 1))) else ((foghornref01_power.f k x4).bind fun t518 => (foghornref01_gray.l0 k x0 (wrap64 (x3 + t518)) (wrap64 (x4 + 1))))))))) else (some x3)
def foghornref01_gray.f (k : Nat) (a0 : Int) : Option (Int) := foghornref01_gray.l0 k a0 0 0
theorem foghornref01_gray.mono_l : ∀ k, (∀ y0 y1 y2, LeO (foghornref01_gray.l0 k y0 y1 y2) (foghornref01_gray.l0 (k + 1) y0 y1 y2))
  | 0 => fun _ _ _ r h => by simp [foghornref01_gray.l0] at h
  | k + 1 => by
    have ih0 := foghornref01_gray.mono_l k
    · intro y0 y1 y2
      unfold foghornref01_gray.l0
      repeat' first
      | (with_reducible exact ih0 _ _ _)
      | (with_reducible exact foghornref01_power.mono _ _)
      | (with_reducible exact LeO.refl _)
      | (with_reducible exact LeO.none _)
      | (with_reducible refine LeO.ite ?_ ?_)
      | (with_reducible refine LeO.bind ?_ (fun _ => ?_))
      | exact ih0 _ _ _
      | exact foghornref01_power.mono _ _
      | exact LeO.none _
      | refine LeO.ite ?_ ?_
      | refine LeO.bind ?_ (fun _ => ?_)
theorem foghornref01_gray.mono : ∀ a0 k, LeO (foghornref01_gray.f k a0) (foghornref01_gray.f (k + 1) a0) := by
  intro a0 k
  have ih0 := foghornref01_gray.mono_l k
  unfold foghornref01_gray.f
  repeat' first
      | (with_reducible exact ih0 _ _ _)
      | (with_reducible exact foghornref01_power.mono _ _)
      | (with_reducible exact LeO.refl _)
      | (with_reducible exact LeO.none _)
      | (with_reducible refine LeO.ite ?_ ?_)
      | (with_reducible refine LeO.bind ?_ (fun _ => ?_))
      | exact ih0 _ _ _
      | exact foghornref01_power.mono _ _
      | exact LeO.none _
      | refine LeO.ite ?_ ?_
      | refine LeO.bind ?_ (fun _ => ?_)
def foghornref01_Gray.f (k : Nat) (a0 : Int) : Option (Int × Int) := if a0 < 0 then (some (0, 1)) else (if a0 > 65535 then (some (0, 1)) else ((foghornref01_gray.f k a0).bind fun t519 => (some (t519, 0))))
theorem foghornref01_Gray.mono : ∀ a0 k, LeO (foghornref01_Gray.f k a0) (foghornref01_Gray.f (k + 1) a0) := by
  intro a0 k
  unfold foghornref01_Gray.f
  repeat' first
      | (with_reducible exact foghornref01_gray.mono _ _)
      | (with_reducible exact LeO.refl _)
      | (with_reducible exact LeO.none _)
      | (with_reducible refine LeO.ite ?_ ?_)
      | (with_reducible refine LeO.bind ?_ (fun _ => ?_))
      | exact foghornref01_gray.mono _ _
      | exact LeO.none _
      | refine LeO.ite ?_ ?_
      | refine LeO.bind ?_ (fun _ => ?_)
mutual
def foghornref04_label.j0 : Nat → Int → Int → Bool → Int → Int → Option (Int)
  | 0, _, _, _, _, _ => none
  | k + 1, x0, x5, x27, x521000, x521001 => if x27 = true then ((foghornref04_Bits.f x0).bind fun bt523 => ((foghornref01_Gray.f k (wrap64 (Int.tdiv (wrap64 (x521000 + x5)) 2))).bind fun bt525 => ((foghornref01_Gray.f k (wrap64 (Int.tdiv (wrap64 (x521001 + x5)) 2))).bind fun bt527 => (foghornref04_label.l0 k bt523.1 bt525.1 bt527.1 0)))) else (foghornref04_label.l1 k x0 x5 0 (wrap64 (-x5)) x521000 x521001)
def foghornref04_label.l0 : Nat → Int → Int → Int → Int → Option (Int)
  | 0, _, _, _, _ => none
  | k + 1, x7, x9, x11, x13 => if x13 < (wrap64 (Int.tdiv x7 2)) then (foghornref04_label.l0 k x7 (wrap64 (2 * x9)) x11 (wrap64 (x13 + 1))) else (some (wrap64 (x9 + x11)))
def foghornref04_label.l1 : Nat → Int → Int → Int → Int → Int → Int → Option (Int)
  | 0, _, _, _, _, _, _ => none
  | k + 1, x0, x5, x14, x15, x521000, x521001 => if x15 ≤ x5 then (foghornref04_label.l2 k x0 x5 x14 x15 (wrap64 (-x5)) x521000 x521001) else (some x14)
def foghornref04_label.l2 : Nat → Int → Int → Int → Int → Int → Int → Int → Option (Int)
  | 0, _, _, _, _, _, _, _ => none
  | k + 1, x0, x5, x14, x15, x16, x521000, x521001 => if x16 ≤ x5 then ((foghornref04_in.f k x0 x15 x16).bind fun t529 => (if t529 = true then (if x15 < x521000 then (foghornref04_label.l2 k x0 x5 (wrap64 (x14 + 1)) x15 (wrap64 (x16 + 1)) x521000 x521001) else (if x15 = x521000 then (if x16 < x521001 then (foghornref04_label.l2 k x0 x5 (wrap64 (x14 + 1)) x15 (wrap64 (x16 + 1)) x521000 x521001) else (foghornref04_label.l2 k x0 x5 x14 x15 (wrap64 (x16 + 1)) x521000 x521001)) else (foghornref04_label.l2 k x0 x5 x14 x15 (wrap64 (x16 + 1)) x521000 x521001))) else (foghornref04_label.l2 k x0 x5 x14 x15 (wrap64 (x16 + 1)) x521000 x521001))) else (foghornref04_label.l1 k x0 x5 x14 (wrap64 (x15 + 1)) x521000 x521001)
end
def foghornref04_label.f (k : Nat) (a0 : Int) (a1_0 : Int) (a1_1 : Int) : Option (Int) := (foghornref04_Edge.f a0).bind fun bt521 => (if a0 = 32 then (foghornref04_label.j0 k a0 bt521.1 false a1_0 a1_1) else (foghornref04_label.j0 k a0 bt521.1 (a0 != 128) a1_0 a1_1))
theorem foghornref04_label.mono_l : ∀ k, (∀ y0 y1 y2 y3 y4, LeO (foghornref04_label.j0 k y0 y1 y2 y3 y4) (foghornref04_label.j0 (k + 1) y0 y1 y2 y3 y4)) ∧ (∀ y0 y1 y2 y3, LeO (foghornref04_label.l0 k y0 y1 y2 y3) (foghornref04_label.l0 (k + 1) y0 y1 y2 y3)) ∧ (∀ y0 y1 y2 y3 y4 y5, LeO (foghornref04_label.l1 k y0 y1 y2 y3 y4 y5) (foghornref04_label.l1 (k + 1) y0 y1 y2 y3 y4 y5)) ∧ (∀ y0 y1 y2 y3 y4 y5 y6, LeO (foghornref04_label.l2 k y0 y1 y2 y3 y4 y5 y6) (foghornref04_label.l2 (k + 1) y0 y1 y2 y3 y4 y5 y6))
  | 0 => ⟨fun _ _ _ _ _ r h => by simp [foghornref04_label.j0] at h, fun _ _ _ _ r h => by simp [foghornref04_label.l0] at h, fun _ _ _ _ _ _ r h => by simp [foghornref04_label.l1] at h, fun _ _ _ _ _ _ _ r h => by simp [foghornref04_label.l2] at h⟩
  | k + 1 => by
    obtain ⟨ih0, ih1, ih2, ih3⟩ := foghornref04_label.mono_l k
    refine ⟨?_, ?_, ?_, ?_⟩
    · intro y0 y1 y2 y3 y4
      unfold foghornref04_label.j0
      repeat' first
      | (with_reducible exact ih0 _ _ _ _ _)
      | (with_reducible exact ih1 _ _ _ _)
      | (with_reducible exact ih2 _ _ _ _ _ _)
      | (with_reducible exact ih3 _ _ _ _ _ _ _)
      | (with_reducible exact foghornref01_Gray.mono _ _)
      | (with_reducible exact foghornref04_in.mono _ _ _ _)
      | (with_reducible exact LeO.refl _)
      | (with_reducible exact LeO.none _)
      | (with_reducible refine LeO.ite ?_ ?_)
      | (with_reducible refine LeO.bind ?_ (fun _ => ?_))
      | exact ih0 _ _ _ _ _
      | exact ih1 _ _ _ _
      | exact ih2 _ _ _ _ _ _
      | exact ih3 _ _ _ _ _ _ _
      | exact foghornref01_Gray.mono _ _
      | exact foghornref04_in.mono _ _ _ _
      | exact LeO.none _
      | refine LeO.ite ?_ ?_
      | refine LeO.bind ?_ (fun _ => ?_)
    · intro y0 y1 y2 y3
      unfold foghornref04_label.l0
      repeat' first
      | (with_reducible exact ih0 _ _ _ _ _)
      | (with_reducible exact ih1 _ _ _ _)
      | (with_reducible exact ih2 _ _ _ _ _ _)
      | (with_reducible exact ih3 _ _ _ _ _ _ _)
      | (with_reducible exact foghornref01_Gray.mono _ _)
      | (with_reducible exact foghornref04_in.mono _ _ _ _)
      | (with_reducible exact LeO.refl _)
      | (with_reducible exact LeO.none _)
      | (with_reducible refine LeO.ite ?_ ?_)
      | (with_reducible refine LeO.bind ?_ (fun _ => ?_))
      | exact ih0 _ _ _ _ _
      | exact ih1 _ _ _ _
      | exact ih2 _ _ _ _ _ _
      | exact ih3 _ _ _ _ _ _ _
      | exact foghornref01_Gray.mono _ _
      | exact foghornref04_in.mono _ _ _ _
      | exact LeO.none _
      | refine LeO.ite ?_ ?_
      | refine LeO.bind ?_ (fun _ => ?_)
    · intro y0 y1 y2 y3 y4 y5
      unfold foghornref04_label.l1
      repeat' first
      | (with_reducible exact ih0 _ _ _ _ _)
      | (with_reducible exact ih1 _ _ _ _)
      | (with_reducible exact ih2 _ _ _ _ _ _)
      | (with_reducible exact ih3 _ _ _ _ _ _ _)
      | (with_reducible exact foghornref01_Gray.mono _ _)
      | (with_reducible exact foghornref04_in.mono _ _ _ _)
      | (with_reducible exact LeO.refl _)
      | (with_reducible exact LeO.none _)
      | (with_reducible refine LeO.ite ?_ ?_)
      | (with_reducible refine LeO.bind ?_ (fun _ => ?_))
      | exact ih0 _ _ _ _ _
      | exact ih1 _ _ _ _
      | exact ih2 _ _ _ _ _ _
      | exact ih3 _ _ _ _ _ _ _
      | exact foghornref01_Gray.mono _ _
      | exact foghornref04_in.mono _ _ _ _
      | exact LeO.none _
      | refine LeO.ite ?_ ?_
      | refine LeO.bind ?_ (fun _ => ?_)
    · intro y0 y1 y2 y3 y4 y5 y6
      unfold foghornref04_label.l2
      repeat' first
      | (with_reducible exact ih0 _ _ _ _ _)
      | (with_reducible exact ih1 _ _ _ _)
      | (with_reducible exact ih2 _ _ _ _ _ _)
      | (with_reducible exact ih3 _ _ _ _ _ _ _)
      | (with_reducible exact foghornref01_Gray.mono _ _)
      | (with_reducible exact foghornref04_in.mono _ _ _ _)
      | (with_reducible exact LeO.refl _)
      | (with_reducible exact LeO.none _)
      | (with_reducible refine LeO.ite ?_ ?_)
      | (with_reducible refine LeO.bind ?_ (fun _ => ?_))
      | exact ih0 _ _ _ _ _
      | exact ih1 _ _ _ _
      | exact ih2 _ _ _ _ _ _
      | exact ih3 _ _ _ _ _ _ _
      | exact foghornref01_Gray.mono _ _
      | exact foghornref04_in.mono _ _ _ _
      | exact LeO.none _
      | refine LeO.ite ?_ ?_
      | refine LeO.bind ?_ (fun _ => ?_)
theorem foghornref04_label.mono : ∀ a0 a1 a2 k, LeO (foghornref04_label.f k a0 a1 a2) (foghornref04_label.f (k + 1) a0 a1 a2) := by
  intro a0 a1 a2 k
  obtain ⟨ih0, ih1, ih2, ih3⟩ := foghornref04_label.mono_l k
  unfold foghornref04_label.f
  repeat' first
      | (with_reducible exact ih0 _ _ _ _ _)
      | (with_reducible exact ih1 _ _ _ _)
      | (with_reducible exact ih2 _ _ _ _ _ _)
      | (with_reducible exact ih3 _ _ _ _ _ _ _)
      | (with_reducible exact foghornref01_Gray.mono _ _)
      | (with_reducible exact foghornref04_in.mono _ _ _ _)
      | (with_reducible exact LeO.refl _)
      | (with_reducible exact LeO.none _)
      | (with_reducible refine LeO.ite ?_ ?_)
      | (with_reducible refine LeO.bind ?_ (fun _ => ?_))
      | exact ih0 _ _ _ _ _
      | exact ih1 _ _ _ _
      | exact ih2 _ _ _ _ _ _
      | exact ih3 _ _ _ _ _ _ _
      | exact foghornref01_Gray.mono _ _
      | exact foghornref04_in.mono _ _ _ _
      | exact LeO.none _
      | refine LeO.ite ?_ ?_
      | refine LeO.bind ?_ (fun _ => ?_)
mutual
def foghornref04_Points.l0 : Nat → Int → Int → List (S220) → Int → Option ((List (S220)) × Int)
  | 0, _, _, _, _ => none
  | k + 1, x0, x4, x6, x7 => if x7 ≤ x4 then (foghornref04_Points.l1 k x0 x4 x6 x7 (wrap64 (-x4))) else (some (x6, 0))
def foghornref04_Points.l1 : Nat → Int → Int → List (S220) → Int → Int → Option ((List (S220)) × Int)
  | 0, _, _, _, _, _ => none
  | k + 1, x0, x4, x6, x7, x8 => if x8 ≤ x4 then ((foghornref04_in.f k x0 x7 x8).bind fun t535 => (if t535 = true then ((foghornref04_label.f k x0 x7 x8).bind fun t536 => (if 0 ≤ t536 then (if t536 < (x6.length : Int) then (foghornref04_Points.l1 k x0 x4 (x6.set (t536 : Int).toNat (⟨x7, x8⟩ : S220)) x7 (wrap64 (x8 + 1))) else (none)) else (none))) else (foghornref04_Points.l1 k x0 x4 x6 x7 (wrap64 (x8 + 1))))) else (foghornref04_Points.l0 k x0 x4 x6 (wrap64 (x7 + 1)))
end
def foghornref04_Points.f (k : Nat) (a0 : Int) : Option ((List (S220)) × Int) := (foghornref04_Edge.f a0).bind fun bt530 => (if bt530.2 = 0 then (if 0 ≤ a0 then (if (a0 : Int).toNat ≤ 17592186044416 then (foghornref04_Points.l0 k a0 bt530.1 (List.replicate (a0 : Int).toNat z220) (wrap64 (-bt530.1))) else (none)) else (none)) else (some (([] : List (S220)), bt530.2)))
theorem foghornref04_Points.mono_l : ∀ k, (∀ y0 y1 y2 y3, LeO (foghornref04_Points.l0 k y0 y1 y2 y3) (foghornref04_Points.l0 (k + 1) y0 y1 y2 y3)) ∧ (∀ y0 y1 y2 y3 y4, LeO (foghornref04_Points.l1 k y0 y1 y2 y3 y4) (foghornref04_Points.l1 (k + 1) y0 y1 y2 y3 y4))
  | 0 => ⟨fun _ _ _ _ r h => by simp [foghornref04_Points.l0] at h, fun _ _ _ _ _ r h => by simp [foghornref04_Points.l1] at h⟩
  | k + 1 => by
    obtain ⟨ih0, ih1⟩ := foghornref04_Points.mono_l k
    refine ⟨?_, ?_⟩
    · intro y0 y1 y2 y3
      unfold foghornref04_Points.l0
      repeat' first
      | (with_reducible exact ih0 _ _ _ _)
      | (with_reducible exact ih1 _ _ _ _ _)
      | (with_reducible exact foghornref04_in.mono _ _ _ _)
      | (with_reducible exact foghornref04_label.mono _ _ _ _)
      | (with_reducible exact LeO.refl _)
      | (with_reducible exact LeO.none _)
      | (with_reducible refine LeO.ite ?_ ?_)
      | (with_reducible refine LeO.bind ?_ (fun _ => ?_))
      | exact ih0 _ _ _ _
      | exact ih1 _ _ _ _ _
      | exact foghornref04_in.mono _ _ _ _
      | exact foghornref04_label.mono _ _ _ _
      | exact LeO.none _
      | refine LeO.ite ?_ ?_
      | refine LeO.bind ?_ (fun _ => ?_)
    · intro y0 y1 y2 y3 y4
      unfold foghornref04_Points.l1
      repeat' first
      | (with_reducible exact ih0 _ _ _ _)
      | (with_reducible exact ih1 _ _ _ _ _)
      | (with_reducible exact foghornref04_in.mono _ _ _ _)
      | (with_reducible exact foghornref04_label.mono _ _ _ _)
      | (with_reducible exact LeO.refl _)
      | (with_reducible exact LeO.none _)
      | (with_reducible refine LeO.ite ?_ ?_)
      | (with_reducible refine LeO.bind ?_ (fun _ => ?_))
      | exact ih0 _ _ _ _
      | exact ih1 _ _ _ _ _
      | exact foghornref04_in.mono _ _ _ _
      | exact foghornref04_label.mono _ _ _ _
      | exact LeO.none _
      | refine LeO.ite ?_ ?_
      | refine LeO.bind ?_ (fun _ => ?_)
theorem foghornref04_Points.mono : ∀ a0 k, LeO (foghornref04_Points.f k a0) (foghornref04_Points.f (k + 1) a0) := by
  intro a0 k
  obtain ⟨ih0, ih1⟩ := foghornref04_Points.mono_l k
  unfold foghornref04_Points.f
  repeat' first
      | (with_reducible exact ih0 _ _ _ _)
      | (with_reducible exact ih1 _ _ _ _ _)
      | (with_reducible exact foghornref04_in.mono _ _ _ _)
      | (with_reducible exact foghornref04_label.mono _ _ _ _)
      | (with_reducible exact LeO.refl _)
      | (with_reducible exact LeO.none _)
      | (with_reducible refine LeO.ite ?_ ?_)
      | (with_reducible refine LeO.bind ?_ (fun _ => ?_))
      | exact ih0 _ _ _ _
      | exact ih1 _ _ _ _ _
      | exact foghornref04_in.mono _ _ _ _
      | exact foghornref04_label.mono _ _ _ _
      | exact LeO.none _
      | refine LeO.ite ?_ ?_
      | refine LeO.bind ?_ (fun _ => ?_)
def foghornref04_Number.f (a0_0 : Int) (a0_1 : Int) : Option ((Nat × Nat)) := some (floatOfInt .f64 a0_0, floatOfInt .f64 a0_1)
def foghornref04_All.l0 : Nat → List (S220) → Int → List (Nat × Nat) → Int → Option (List (Nat × Nat) × Int)
  | 0, _, _, _, _ => none
  | k + 1, x4, x5, x6, x7 => if x7 < (x4.length : Int) then (if 0 ≤ x7 then ((foghornref04_Number.f ((rd_T220 x4 x7).f0) ((rd_T220 x4 x7).f1)).bind fun t544 => (if x6.length < 8796093022208 then (foghornref04_All.l0 k x4 x5 (x6 ++ [t544]) (wrap64 (x7 + 1))) else (none))) else (none)) else (some (x6, x5))
def foghornref04_All.f (k : Nat) (a0 : Int) : Option (List (Nat × Nat) × Int) := (foghornref04_Points.f k a0).bind fun bt539 => (foghornref04_All.l0 k bt539.1 bt539.2 ([] : List (Nat × Nat)) 0)
theorem foghornref04_All.mono_l : ∀ k, (∀ y0 y1 y2 y3, LeO (foghornref04_All.l0 k y0 y1 y2 y3) (foghornref04_All.l0 (k + 1) y0 y1 y2 y3))
  | 0 => fun _ _ _ _ r h => by simp [foghornref04_All.l0] at h
  | k + 1 => by
    have ih0 := foghornref04_All.mono_l k
    · intro y0 y1 y2 y3
      unfold foghornref04_All.l0
      repeat' first
      | (with_reducible exact ih0 _ _ _ _)
      | (with_reducible exact foghornref04_Points.mono _ _)
      | (with_reducible exact LeO.refl _)
      | (with_reducible exact LeO.none _)
      | (with_reducible refine LeO.ite ?_ ?_)
      | (with_reducible refine LeO.bind ?_ (fun _ => ?_))
      | exact ih0 _ _ _ _
      | exact foghornref04_Points.mono _ _
      | exact LeO.none _
      | refine LeO.ite ?_ ?_
      | refine LeO.bind ?_ (fun _ => ?_)
theorem foghornref04_All.mono : ∀ a0 k, LeO (foghornref04_All.f k a0) (foghornref04_All.f (k + 1) a0) := by
  intro a0 k
  have ih0 := foghornref04_All.mono_l k
  unfold foghornref04_All.f
  repeat' first
      | (with_reducible exact ih0 _ _ _ _)
      | (with_reducible exact foghornref04_Points.mono _ _)
      | (with_reducible exact LeO.refl _)
      | (with_reducible exact LeO.none _)
      | (with_reducible refine LeO.ite ?_ ?_)
      | (with_reducible refine LeO.bind ?_ (fun _ => ?_))
      | exact ih0 _ _ _ _
      | exact foghornref04_Points.mono _ _
      | exact LeO.none _
      | refine LeO.ite ?_ ?_
      | refine LeO.bind ?_ (fun _ => ?_)
def foghornref04_At.f (k : Nat) (a0 : Int) (a1 : Int) : Option ((Nat × Nat) × Int) := (foghornref04_All.f k a0).bind fun bt548 => (if bt548.2 = 0 then (if a1 < 0 then (some ((0, 0), 1)) else (if a1 ≥ a0 then (some ((0, 0), 1)) else (if 0 ≤ a1 then (if a1 < (bt548.1.length : Int) then (some (rdOf (0, 0) bt548.1 a1, 0)) else (none)) else (none)))) else (some ((0, 0), 1)))
def foghornref05_gap.f (a0 : (Nat × Nat)) (a1 : (Nat × Nat)) : Option (Nat) := (floatBits .sub .f64 a0.1 a1.1).bind fun t553 => ((floatBits .sub .f64 a0.2 a1.2).bind fun t554 => ((floatBits .mul .f64 t553 t553).bind fun t555 => ((floatBits .mul .f64 t554 t554).bind fun t556 => ((floatBits .add .f64 t555 t556).bind fun t557 => (some t557)))))
def foghornref05_Gap.f (k : Nat) (a0 : Int) (a1 : (Nat × Nat)) (a2 : Int) : Option (Nat × Int) := (foghornref04_At.f k a0 a2).bind fun bt558 => ((foghornref05_Cut.f k a0 a1).bind fun bt560 => (if bt558.2 = 0 then (if bt560.2 = 0 then ((foghornref05_gap.f bt560.1 bt558.1).bind fun t562 => (some (t562, 0))) else (some (0, 1))) else (some (0, 1))))
def points_At.f (a0 : Int) (a1 : Int) : Option ((Nat × Nat) × Int) := match pts_spec a0 with
  | none => some ((0, 0), 1)
  | some x => if 0 ≤ a1 ∧ a1 < a0 then (x.2.2 a1).bind fun r => some (r, 0) else some ((0, 0), 1)
def slice_gap.f (a0 : (Nat × Nat)) (a1 : (Nat × Nat)) : Option (Nat) := (floatBits .sub .f64 a0.1 a1.1).bind fun t563 => ((floatBits .sub .f64 a0.2 a1.2).bind fun t564 => ((floatBits .mul .f64 t563 t563).bind fun t565 => ((floatBits .mul .f64 t564 t564).bind fun t566 => ((floatBits .add .f64 t565 t566).bind fun t567 => (some t567)))))
def slice_Gap.f (a0 : Int) (a1 : (Nat × Nat)) (a2 : Int) : Option (Nat × Int) := (points_At.f a0 a2).bind fun bt568 => ((slice_Cut.f a0 a1).bind fun bt570 => (if bt568.2 = 0 then (if bt570.2 = 0 then ((slice_gap.f bt570.1 bt568.1).bind fun t572 => (some (t572, 0))) else (some (0, 1))) else (some (0, 1))))
def foghornlaw05_SliceAxes.f (k : Nat) (a0 : Int) (a1 : Int) (a2 : Int) (a3 : Int) (a4 : Int) : Option (Bool) := (foghornlaw05_number.f a0 a1).bind fun t573 => ((foghornref05_Axis.f k t573.1 a2).bind fun bt574 => ((slice_Axis.f k t573.1 a2).bind fun bt576 => ((foghornref05_Cut.f k a3 t573).bind fun bt578 => ((slice_Cut.f a3 t573).bind fun bt580 => ((foghornref05_Gap.f k a3 t573 a4).bind fun bt582 => ((slice_Gap.f a3 t573 a4).bind fun bt584 => (if bt574.1 = bt576.1 then (if bt574.2 = bt576.2 then (if ((FloatKind.f64.format.order bt578.1.1 bt580.1.1 == some .eq) && (FloatKind.f64.format.order bt578.1.2 bt580.1.2 == some .eq)) = true then (if bt578.2 = bt580.2 then (if (FloatKind.f64.format.order bt582.1 bt584.1 == some .eq) = true then (some (bt582.2 == bt584.2)) else (some false)) else (some false)) else (some false)) else (some false)) else (some false))))))))
def foghornlaw05_SliceAxes.Pure : Prop := ∀ (a0 : Int) (a1 : Int) (a2 : Int) (a3 : Int) (a4 : Int), (Lit.int .u64 a0).wf = true → (Lit.int .u64 a1).wf = true → (Lit.int .i64 a2).wf = true → (Lit.int .i64 a3).wf = true → (Lit.int .i64 a4).wf = true → ∃ k, foghornlaw05_SliceAxes.f k a0 a1 a2 a3 a4 = some true
def foghornref02_Finite.f (a0 : Nat) : Option (Bool) := match floatBits .sub .f64 a0 a0 with
  | some t => some (FloatKind.f64.format.order t 0 == some .eq)
  | none => some false
def points_Label.l0 : Nat → (Nat × Nat) → List (Nat × Nat) → Int → Int → Option (Int × Int)
  | 0, _, _, _, _ => none
  | k + 1, x1, x18, x19, x20 => if x20 < x19 then (if 0 ≤ x20 then (if x20 < (x18.length : Int) then (if ((FloatKind.f64.format.order ((rdOf (0, 0) x18 x20).1) x1.1 == some .eq) && (FloatKind.f64.format.order ((rdOf (0, 0) x18 x20).2) x1.2 == some .eq)) = true then (some (x20, 0)) else (points_Label.l0 k x1 x18 x19 (wrap64 (x20 + 1)))) else (none)) else (none)) else (some (0, 6))
def points_Label.f (k : Nat) (a0 : Int) (a1 : (Nat × Nat)) : Option (Int × Int) := (points_All.f a0).bind fun bt613 => (if bt613.2 = 0 then (points_Label.l0 k a1 bt613.1 (bt613.1.length : Int) 0) else (some (0, bt613.2)))
theorem points_Label.mono_l : ∀ k, (∀ y0 y1 y2 y3, LeO (points_Label.l0 k y0 y1 y2 y3) (points_Label.l0 (k + 1) y0 y1 y2 y3))
  | 0 => fun _ _ _ _ r h => by simp [points_Label.l0] at h
  | k + 1 => by
    have ih0 := points_Label.mono_l k
    · intro y0 y1 y2 y3
      unfold points_Label.l0
      repeat' first
      | (with_reducible exact ih0 _ _ _ _)
      | (with_reducible exact LeO.refl _)
      | (with_reducible exact LeO.none _)
      | (with_reducible refine LeO.ite ?_ ?_)
      | (with_reducible refine LeO.bind ?_ (fun _ => ?_))
      | exact ih0 _ _ _ _
      | exact LeO.none _
      | refine LeO.ite ?_ ?_
      | refine LeO.bind ?_ (fun _ => ?_)
theorem points_Label.mono : ∀ a0 a1 k, LeO (points_Label.f k a0 a1) (points_Label.f (k + 1) a0 a1) := by
  intro a0 a1 k
  have ih0 := points_Label.mono_l k
  unfold points_Label.f
  repeat' first
      | (with_reducible exact ih0 _ _ _ _)
      | (with_reducible exact LeO.refl _)
      | (with_reducible exact LeO.none _)
      | (with_reducible refine LeO.ite ?_ ?_)
      | (with_reducible refine LeO.bind ?_ (fun _ => ?_))
      | exact ih0 _ _ _ _
      | exact LeO.none _
      | refine LeO.ite ?_ ?_
      | refine LeO.bind ?_ (fun _ => ?_)
def slice_axes.f (k : Nat) (a0 : Int) (a1 : Int) (a2 : (Nat × Nat)) : Option (Int × (Nat × Nat) × Bool) := (slice_Axis.f k a2.1 a1).bind fun bt619 => ((slice_Axis.f k a2.2 a1).bind fun bt621 => ((points_Label.f k a0 (floatOfInt .f64 bt619.1, floatOfInt .f64 bt621.1)).bind fun bt623 => (some (bt623.1, (floatOfInt .f64 bt619.1, floatOfInt .f64 bt621.1), false))))
theorem slice_axes.mono : ∀ a0 a1 a2 k, LeO (slice_axes.f k a0 a1 a2) (slice_axes.f (k + 1) a0 a1 a2) := by
  intro a0 a1 a2 k
  unfold slice_axes.f
  repeat' first
      | (with_reducible exact points_Label.mono _ _ _)
      | (with_reducible exact slice_Axis.mono _ _ _)
      | (with_reducible exact LeO.refl _)
      | (with_reducible exact LeO.none _)
      | (with_reducible refine LeO.ite ?_ ?_)
      | (with_reducible refine LeO.bind ?_ (fun _ => ?_))
      | exact points_Label.mono _ _ _
      | exact slice_Axis.mono _ _ _
      | exact LeO.none _
      | refine LeO.ite ?_ ?_
      | refine LeO.bind ?_ (fun _ => ?_)
def slice_nearest.l0 : Nat → (Nat × Nat) → Nat → List (Nat × Nat) → Int → Int → Int → (Nat × Nat) → Bool → Option (Int × (Nat × Nat) × Bool)
  | 0, _, _, _, _, _, _, _, _ => none
  | k + 1, x2, x10, x24, x25, x26, x633000, x633001, x633002 => if x26 < x25 then (if 0 ≤ x26 then (if x26 < (x24.length : Int) then ((slice_gap.f x2 (rdOf (0, 0) x24 x26)).bind fun t634 => (if (FloatKind.f64.format.order t634 x10 == some .lt) = true then (slice_nearest.l0 k x2 t634 x24 x25 (wrap64 (x26 + 1)) x26 (rdOf (0, 0) x24 x26) false) else (slice_nearest.l0 k x2 x10 x24 x25 (wrap64 (x26 + 1)) x633000 x633001 x633002))) else (none)) else (none)) else (some (x633000, x633001, x633002))
def slice_nearest.f (k : Nat) (a0 : Int) (a1 : Int) (a2 : (Nat × Nat)) : Option (Int × (Nat × Nat) × Bool) := (points_All.f a0).bind fun bt626 => ((slice_cut.f a2 a1).bind fun t630 => ((math_Inf.f 1).bind fun t631 => (slice_nearest.l0 k t630 t631 bt626.1 (bt626.1.length : Int) 0 0 (0, 0) false)))
theorem slice_nearest.mono_l : ∀ k, (∀ y0 y1 y2 y3 y4 y5 y6 y7, LeO (slice_nearest.l0 k y0 y1 y2 y3 y4 y5 y6 y7) (slice_nearest.l0 (k + 1) y0 y1 y2 y3 y4 y5 y6 y7))
  | 0 => fun _ _ _ _ _ _ _ _ r h => by simp [slice_nearest.l0] at h
  | k + 1 => by
    have ih0 := slice_nearest.mono_l k
    · intro y0 y1 y2 y3 y4 y5 y6 y7
      unfold slice_nearest.l0
      repeat' first
      | (with_reducible exact ih0 _ _ _ _ _ _ _ _)
      | (with_reducible exact LeO.refl _)
      | (with_reducible exact LeO.none _)
      | (with_reducible refine LeO.ite ?_ ?_)
      | (with_reducible refine LeO.bind ?_ (fun _ => ?_))
      | exact ih0 _ _ _ _ _ _ _ _
      | exact LeO.none _
      | refine LeO.ite ?_ ?_
      | refine LeO.bind ?_ (fun _ => ?_)
theorem slice_nearest.mono : ∀ a0 a1 a2 k, LeO (slice_nearest.f k a0 a1 a2) (slice_nearest.f (k + 1) a0 a1 a2) := by
  intro a0 a1 a2 k
  have ih0 := slice_nearest.mono_l k
  unfold slice_nearest.f
  repeat' first
      | (with_reducible exact ih0 _ _ _ _ _ _ _ _)
      | (with_reducible exact LeO.refl _)
      | (with_reducible exact LeO.none _)
      | (with_reducible refine LeO.ite ?_ ?_)
      | (with_reducible refine LeO.bind ?_ (fun _ => ?_))
      | exact ih0 _ _ _ _ _ _ _ _
      | exact LeO.none _
      | refine LeO.ite ?_ ?_
      | refine LeO.bind ?_ (fun _ => ?_)
def slice_decide.f (k : Nat) (a0 : Int) (a1 : Int) (a2 : (Nat × Nat)) : Option (Int × (Nat × Nat) × Bool) :=
  (slice_nan.f a2).bind fun n => if n = true then some (0, (0, 0), true) else (math_IsInf.f a2.1 0).bind fun i => if i = true then some (0, (0, 0), true) else (math_IsInf.f a2.2 0).bind fun j => if j = true then some (0, (0, 0), true) else
    if a0 = 32 ∨ a0 = 128 then slice_nearest.f k a0 a1 a2 else if a0 = 4 ∨ a0 = 16 ∨ a0 = 64 ∨ a0 = 256 then slice_axes.f k a0 a1 a2 else none
theorem slice_decide.mono : ∀ a0 a1 a2 k, LeO (slice_decide.f k a0 a1 a2) (slice_decide.f (k + 1) a0 a1 a2) := fun a0 a1 a2 k =>
  LeO.bind (LeO.refl _) fun _ => LeO.ite (LeO.refl _) (LeO.bind (LeO.refl _) fun _ => LeO.ite (LeO.refl _) (LeO.bind (LeO.refl _) fun _ => LeO.ite (LeO.refl _) (LeO.ite (slice_nearest.mono a0 a1 a2 k) (LeO.ite (slice_axes.mono a0 a1 a2 k) (LeO.refl _)))))
def slice_Decide.f (k : Nat) (a0 : Int) (a1 : (Nat × Nat)) : Option (Int × (Nat × Nat) × Bool × Int) := (points_Edge.f a0).bind fun bt636 => (if bt636.2 = 0 then ((slice_decide.f k a0 bt636.1 a1).bind fun bt638 => (some (bt638.1, bt638.2.1, bt638.2.2, 0))) else (some (0, (0, 0), false, 1)))
theorem slice_Decide.mono : ∀ a0 a1 k, LeO (slice_Decide.f k a0 a1) (slice_Decide.f (k + 1) a0 a1) := by
  intro a0 a1 k
  unfold slice_Decide.f
  repeat' first
      | (with_reducible exact slice_decide.mono _ _ _ _)
      | (with_reducible exact LeO.refl _)
      | (with_reducible exact LeO.none _)
      | (with_reducible refine LeO.ite ?_ ?_)
      | (with_reducible refine LeO.bind ?_ (fun _ => ?_))
      | exact slice_decide.mono _ _ _ _
      | exact LeO.none _
      | refine LeO.ite ?_ ?_
      | refine LeO.bind ?_ (fun _ => ?_)
def grid_may.f (a0_0 : (Nat × Nat)) (a0_1 : Bool) : Option (Bool) := if a0_1 = true then (some ((FloatKind.f64.format.order a0_0.1 0 == some .eq) && (FloatKind.f64.format.order a0_0.2 0 == some .eq))) else ((grid_On.f a0_0.1).bind fun t660 => (if t660 = true then ((grid_On.f a0_0.2).bind fun t661 => (some t661)) else (some false)))
end Go.Proofs.Ythfcafllcgjepaa.Q
