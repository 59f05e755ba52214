-- Printed by myprint.py (ours) over the kit's printer, out of the translation.
import Derived.Test.YtncoakokdajibaaMendNeverK0
import Derived.Test.YtncoakokdajibaaMendNeverF0
namespace Go.Proofs.Ytncoakokdajibaa.Q
open Go.RowKit Go.Proofs.YtncoakokdajibaaW.PrintWords Go.Proofs.YtncoakokdajibaaW.PrintLast Go.Proofs.YtncoakokdajibaaW.PrintMore
attribute [local go_sem] ArrW.ptrOf_slice unary_neg_float unary_neg_complex run_store_float run_store_complex max2_int min2_int max_two min_two max_three min_three max_four min_four   -- for this text's walks alone
set_option linter.unusedVariables false
set_option linter.unusedSimpArgs false

/-! ### foghornlaw20_MendNever: function 12 -/
mutual
def foghornlaw20_MendNever.j0 : Nat → ByteArray → Int → List Int → ByteArray → Int → ByteArray → Bool → ByteArray → List Int → List Int → Option (Bool)
  | 0, _, _, _, _, _, _, _, _, _, _ => none
  | k + 1, x0, x1, x2, x3, x10, x11, x57, x888000, x888001, x888002 => if x57 = true then (foghornlaw20_MendNever.l0 k x0 x1 x2 x3 x10 x888000 x888001 x888002) else (foghornlaw20_MendNever.j2 k x0 x1 x2 x10 x11 x888000 x888001 x888002)
def foghornlaw20_MendNever.j2 : Nat → ByteArray → Int → List Int → Int → ByteArray → ByteArray → List Int → List Int → Option (Bool)
  | 0, _, _, _, _, _, _, _, _ => none
  | k + 1, x0, x1, x2, x10, x11, x888000, x888001, x888002 => (mend_Within.f k x0 x11 x1 x2).bind fun bt890 => (if x11.toList = ([] : List UInt8) then (foghornlaw20_MendNever.j3 k x0 x1 x2 x10 x11 bt890.1 false x888000 x888001 x888002) else (foghornlaw20_MendNever.j3 k x0 x1 x2 x10 x11 bt890.1 (bt890.2 != 0) x888000 x888001 x888002))
def foghornlaw20_MendNever.j3 : Nat → ByteArray → Int → List Int → Int → ByteArray → Bool → Bool → ByteArray → List Int → List Int → Option (Bool)
  | 0, _, _, _, _, _, _, _, _, _, _ => none
  | k + 1, x0, x1, x2, x10, x11, x12, x92, x888000, x888001, x888002 => if x92 = true then (some false) else (if x10 = 9 then (if x12 = true then (some false) else (if x888000.toList = ([] : List UInt8) then (some ((wrap64 ((x888001.length : Int) + (x888002.length : Int))) == 0)) else (some false))) else ((reed_Whole.f k x888000 x1).bind fun bt892 => ((mend_Within.f k x0 x888000 x1 x2).bind fun bt894 => ((mend_Mend.f k x888000 x1 x2).bind fun bt896 => (if x10 = 0 then (if bt892.2 = 0 then (if bt894.2 = 0 then (if bt896.2.2.2 = 0 then (if bt892.1 = true then (if bt894.1 = true then (if bt896.1.toList = x888000.toList then (if (bt896.2.1.length : Int) = 0 then (if (x888002.length : Int) = (x2.length : Int) then (if (wrap64 ((wrap64 (2 * (x888001.length : Int))) + (x2.length : Int))) > x1 then (foghornlaw20_MendNever.j4 k x0 x2 true x888000 x888001 x888002) else (if x12 = true then (foghornlaw20_MendNever.j4 k x0 x2 (x11.toList != x888000.toList) x888000 x888001 x888002) else (foghornlaw20_MendNever.j4 k x0 x2 false x888000 x888001 x888002))) else (foghornlaw20_MendNever.j4 k x0 x2 true x888000 x888001 x888002)) else (foghornlaw20_MendNever.j4 k x0 x2 true x888000 x888001 x888002)) else (foghornlaw20_MendNever.j4 k x0 x2 true x888000 x888001 x888002)) else (foghornlaw20_MendNever.j4 k x0 x2 true x888000 x888001 x888002)) else (foghornlaw20_MendNever.j4 k x0 x2 true x888000 x888001 x888002)) else (foghornlaw20_MendNever.j4 k x0 x2 true x888000 x888001 x888002)) else (foghornlaw20_MendNever.j4 k x0 x2 true x888000 x888001 x888002)) else (foghornlaw20_MendNever.j4 k x0 x2 true x888000 x888001 x888002)) else (foghornlaw20_MendNever.j4 k x0 x2 true x888000 x888001 x888002))))))
def foghornlaw20_MendNever.j4 : Nat → ByteArray → List Int → Bool → ByteArray → List Int → List Int → Option (Bool)
  | 0, _, _, _, _, _, _ => none
  | k + 1, x0, x2, x198, x888000, x888001, x888002 => if x198 = true then (some false) else (foghornlaw20_MendNever.l1 k x0 x2 0 0 x888000 x888001 x888002)
def foghornlaw20_MendNever.l1 : Nat → ByteArray → List Int → Int → Int → ByteArray → List Int → List Int → Option (Bool)
  | 0, _, _, _, _, _, _, _ => none
  | k + 1, x0, x2, x20, x21, x888000, x888001, x888002 => if x21 < (x0.size : Int) then (foghornlaw20_MendNever.l2 k x0 x2 x20 x21 false 0 x888000 x888001 x888002) else (some (x20 == (x888001.length : Int)))
def foghornlaw20_MendNever.l2 : Nat → ByteArray → List Int → Int → Int → Bool → Int → ByteArray → List Int → List Int → Option (Bool)
  | 0, _, _, _, _, _, _, _, _, _ => none
  | k + 1, x0, x2, x20, x21, x22, x23, x888000, x888001, x888002 => if x23 < (x2.length : Int) then (if x22 = true then (foghornlaw20_MendNever.l2 k x0 x2 x20 x21 true (wrap64 (x23 + 1)) x888000 x888001 x888002) else (if 0 ≤ x23 then (foghornlaw20_MendNever.l2 k x0 x2 x20 x21 ((rd x2 x23) == x21) (wrap64 (x23 + 1)) x888000 x888001 x888002) else (none))) else (if x22 = true then (foghornlaw20_MendNever.j7 k x0 x2 x20 x21 false x888000 x888001 x888002) else (if 0 ≤ x21 then (if x21 < (x0.size : Int) then (if x21 < (x888000.size : Int) then (foghornlaw20_MendNever.j7 k x0 x2 x20 x21 ((bt x0 x21) != (bt x888000 x21)) x888000 x888001 x888002) else (none)) else (none)) else (none)))
def foghornlaw20_MendNever.j7 : Nat → ByteArray → List Int → Int → Int → Bool → ByteArray → List Int → List Int → Option (Bool)
  | 0, _, _, _, _, _, _, _, _ => none
  | k + 1, x0, x2, x20, x21, x231, x888000, x888001, x888002 => if x231 = true then (if x20 ≥ (x888001.length : Int) then (some false) else (if 0 ≤ x20 then (if x20 < (x888001.length : Int) then (if (rd x888001 x20) = x21 then (foghornlaw20_MendNever.l1 k x0 x2 (wrap64 (x20 + 1)) (wrap64 (x21 + 1)) x888000 x888001 x888002) else (some false)) else (none)) else (none))) else (foghornlaw20_MendNever.l1 k x0 x2 x20 (wrap64 (x21 + 1)) x888000 x888001 x888002)
def foghornlaw20_MendNever.l0 : Nat → ByteArray → Int → List Int → ByteArray → Int → ByteArray → List Int → List Int → Option (Bool)
  | 0, _, _, _, _, _, _, _, _ => none
  | k + 1, x0, x1, x2, x3, x10, x888000, x888001, x888002 => if (x3.size : Int) < (wrap64 ((x0.size : Int) - x1)) then (if x3.size + x3.size ≤ 9223372036854775807 then (foghornlaw20_MendNever.l0 k x0 x1 x2 (x3 ++ x3) x10 x888000 x888001 x888002) else (none)) else (if 0 ≤ (wrap64 ((x0.size : Int) - x1)) then (if (wrap64 ((x0.size : Int) - x1)) ≤ (x3.size : Int) then ((foghornref19_Encode.f k (x3.extract 0 ((wrap64 ((x0.size : Int) - x1)) : Int).toNat) x1).bind fun bt888 => (foghornlaw20_MendNever.j2 k x0 x1 x2 x10 bt888.1 x888000 x888001 x888002)) else (none)) else (none))
end
def foghornlaw20_MendNever.f (k : Nat) (a0 : ByteArray) (a1 : Int) (l2 : List Int) (a3 : ByteArray) : Option (Bool) := (foghornlaw20_awake.f k).bind fun t878 => (if t878 = true then ((mend_Mend.f k a0 a1 l2).bind fun bt879 => (if bt879.2.2.2 = 1 then (if bt879.1.toList = ([] : List UInt8) then (some ((wrap64 ((bt879.2.1.length : Int) + (bt879.2.2.1.length : Int))) == 0)) else (some false)) else (if (a3.size : Int) > 0 then (foghornlaw20_MendNever.j0 k a0 a1 l2 a3 bt879.2.2.2 (⟨#[]⟩ : ByteArray) (decide ((wrap64 ((a0.size : Int) - a1)) > 0)) bt879.1 bt879.2.1 bt879.2.2.1) else (foghornlaw20_MendNever.j0 k a0 a1 l2 a3 bt879.2.2.2 (⟨#[]⟩ : ByteArray) false bt879.1 bt879.2.1 bt879.2.2.1)))) else (some false))
theorem foghornlaw20_MendNever.mono_l : ∀ k, (∀ y0 y1 y2 y3 y4 y5 y6 y7 y8 y9, LeO (foghornlaw20_MendNever.j0 k y0 y1 y2 y3 y4 y5 y6 y7 y8 y9) (foghornlaw20_MendNever.j0 (k + 1) y0 y1 y2 y3 y4 y5 y6 y7 y8 y9)) ∧ (∀ y0 y1 y2 y3 y4 y5 y6 y7, LeO (foghornlaw20_MendNever.j2 k y0 y1 y2 y3 y4 y5 y6 y7) (foghornlaw20_MendNever.j2 (k + 1) y0 y1 y2 y3 y4 y5 y6 y7)) ∧ (∀ y0 y1 y2 y3 y4 y5 y6 y7 y8 y9, LeO (foghornlaw20_MendNever.j3 k y0 y1 y2 y3 y4 y5 y6 y7 y8 y9) (foghornlaw20_MendNever.j3 (k + 1) y0 y1 y2 y3 y4 y5 y6 y7 y8 y9)) ∧ (∀ y0 y1 y2 y3 y4 y5, LeO (foghornlaw20_MendNever.j4 k y0 y1 y2 y3 y4 y5) (foghornlaw20_MendNever.j4 (k + 1) y0 y1 y2 y3 y4 y5)) ∧ (∀ y0 y1 y2 y3 y4 y5 y6, LeO (foghornlaw20_MendNever.l1 k y0 y1 y2 y3 y4 y5 y6) (foghornlaw20_MendNever.l1 (k + 1) y0 y1 y2 y3 y4 y5 y6)) ∧ (∀ y0 y1 y2 y3 y4 y5 y6 y7 y8, LeO (foghornlaw20_MendNever.l2 k y0 y1 y2 y3 y4 y5 y6 y7 y8) (foghornlaw20_MendNever.l2 (k + 1) y0 y1 y2 y3 y4 y5 y6 y7 y8)) ∧ (∀ y0 y1 y2 y3 y4 y5 y6 y7, LeO (foghornlaw20_MendNever.j7 k y0 y1 y2 y3 y4 y5 y6 y7) (foghornlaw20_MendNever.j7 (k + 1) y0 y1 y2 y3 y4 y5 y6 y7)) ∧ (∀ y0 y1 y2 y3 y4 y5 y6 y7, LeO (foghornlaw20_MendNever.l0 k y0 y1 y2 y3 y4 y5 y6 y7) (foghornlaw20_MendNever.l0 (k + 1) y0 y1 y2 y3 y4 y5 y6 y7))
  | 0 => ⟨fun _ _ _ _ _ _ _ _ _ _ r h => by simp [foghornlaw20_MendNever.j0] at h, fun _ _ _ _ _ _ _ _ r h => by simp [foghornlaw20_MendNever.j2] at h, fun _ _ _ _ _ _ _ _ _ _ r h => by simp [foghornlaw20_MendNever.j3] at h, fun _ _ _ _ _ _ r h => by simp [foghornlaw20_MendNever.j4] at h, fun _ _ _ _ _ _ _ r h => by simp [foghornlaw20_MendNever.l1] at h, fun _ _ _ _ _ _ _ _ _ r h => by simp [foghornlaw20_MendNever.l2] at h, fun _ _ _ _ _ _ _ _ r h => by simp [foghornlaw20_MendNever.j7] at h, fun _ _ _ _ _ _ _ _ r h => by simp [foghornlaw20_MendNever.l0] at h⟩
  | k + 1 => by
    obtain ⟨ih0, ih1, ih2, ih3, ih4, ih5, ih6, ih7⟩ := foghornlaw20_MendNever.mono_l k
    refine ⟨?_, ?_, ?_, ?_, ?_, ?_, ?_, ?_⟩
    · intro y0 y1 y2 y3 y4 y5 y6 y7 y8 y9
      unfold foghornlaw20_MendNever.j0
      repeat' first
      | (with_reducible exact ih0 _ _ _ _ _ _ _ _ _ _)
      | (with_reducible exact ih1 _ _ _ _ _ _ _ _)
      | (with_reducible exact ih2 _ _ _ _ _ _ _ _ _ _)
      | (with_reducible exact ih3 _ _ _ _ _ _)
      | (with_reducible exact ih4 _ _ _ _ _ _ _)
      | (with_reducible exact ih5 _ _ _ _ _ _ _ _ _)
      | (with_reducible exact ih6 _ _ _ _ _ _ _ _)
      | (with_reducible exact ih7 _ _ _ _ _ _ _ _)
      | (with_reducible exact foghornlaw20_awake.mono _)
      | (with_reducible exact foghornref19_Encode.mono _ _ _)
      | (with_reducible exact mend_Mend.mono _ _ _ _)
      | (with_reducible exact mend_Within.mono _ _ _ _ _)
      | (with_reducible exact reed_Whole.mono _ _ _)
      | (with_reducible exact LeO.refl _)
      | (with_reducible exact LeO.none _)
      | (with_reducible refine LeO.ite ?_ ?_)
      | (with_reducible refine LeO.bind ?_ (fun _ => ?_))
      | exact ih0 _ _ _ _ _ _ _ _ _ _
      | exact ih1 _ _ _ _ _ _ _ _
      | exact ih2 _ _ _ _ _ _ _ _ _ _
      | exact ih3 _ _ _ _ _ _
      | exact ih4 _ _ _ _ _ _ _
      | exact ih5 _ _ _ _ _ _ _ _ _
      | exact ih6 _ _ _ _ _ _ _ _
      | exact ih7 _ _ _ _ _ _ _ _
      | exact foghornlaw20_awake.mono _
      | exact foghornref19_Encode.mono _ _ _
      | exact mend_Mend.mono _ _ _ _
      | exact mend_Within.mono _ _ _ _ _
      | exact reed_Whole.mono _ _ _
      | exact LeO.none _
      | refine LeO.ite ?_ ?_
      | refine LeO.bind ?_ (fun _ => ?_)
    · intro y0 y1 y2 y3 y4 y5 y6 y7
      unfold foghornlaw20_MendNever.j2
      repeat' first
      | (with_reducible exact ih0 _ _ _ _ _ _ _ _ _ _)
      | (with_reducible exact ih1 _ _ _ _ _ _ _ _)
      | (with_reducible exact ih2 _ _ _ _ _ _ _ _ _ _)
      | (with_reducible exact ih3 _ _ _ _ _ _)
      | (with_reducible exact ih4 _ _ _ _ _ _ _)
      | (with_reducible exact ih5 _ _ _ _ _ _ _ _ _)
      | (with_reducible exact ih6 _ _ _ _ _ _ _ _)
      | (with_reducible exact ih7 _ _ _ _ _ _ _ _)
      | (with_reducible exact foghornlaw20_awake.mono _)
      | (with_reducible exact foghornref19_Encode.mono _ _ _)
      | (with_reducible exact mend_Mend.mono _ _ _ _)
      | (with_reducible exact mend_Within.mono _ _ _ _ _)
      | (with_reducible exact reed_Whole.mono _ _ _)
      | (with_reducible exact LeO.refl _)
      | (with_reducible exact LeO.none _)
      | (with_reducible refine LeO.ite ?_ ?_)
      | (with_reducible refine LeO.bind ?_ (fun _ => ?_))
      | exact ih0 _ _ _ _ _ _ _ _ _ _
      | exact ih1 _ _ _ _ _ _ _ _
      | exact ih2 _ _ _ _ _ _ _ _ _ _
      | exact ih3 _ _ _ _ _ _
      | exact ih4 _ _ _ _ _ _ _
      | exact ih5 _ _ _ _ _ _ _ _ _
      | exact ih6 _ _ _ _ _ _ _ _
      | exact ih7 _ _ _ _ _ _ _ _
      | exact foghornlaw20_awake.mono _
      | exact foghornref19_Encode.mono _ _ _
      | exact mend_Mend.mono _ _ _ _
      | exact mend_Within.mono _ _ _ _ _
      | exact reed_Whole.mono _ _ _
      | exact LeO.none _
      | refine LeO.ite ?_ ?_
      | refine LeO.bind ?_ (fun _ => ?_)
    · intro y0 y1 y2 y3 y4 y5 y6 y7 y8 y9
      unfold foghornlaw20_MendNever.j3
      repeat' first
      | (with_reducible exact ih0 _ _ _ _ _ _ _ _ _ _)
      | (with_reducible exact ih1 _ _ _ _ _ _ _ _)
      | (with_reducible exact ih2 _ _ _ _ _ _ _ _ _ _)
      | (with_reducible exact ih3 _ _ _ _ _ _)
      | (with_reducible exact ih4 _ _ _ _ _ _ _)
      | (with_reducible exact ih5 _ _ _ _ _ _ _ _ _)
      | (with_reducible exact ih6 _ _ _ _ _ _ _ _)
      | (with_reducible exact ih7 _ _ _ _ _ _ _ _)
      | (with_reducible exact foghornlaw20_awake.mono _)
      | (with_reducible exact foghornref19_Encode.mono _ _ _)
      | (with_reducible exact mend_Mend.mono _ _ _ _)
      | (with_reducible exact mend_Within.mono _ _ _ _ _)
      | (with_reducible exact reed_Whole.mono _ _ _)
      | (with_reducible exact LeO.refl _)
      | (with_reducible exact LeO.none _)
      | (with_reducible refine LeO.ite ?_ ?_)
      | (with_reducible refine LeO.bind ?_ (fun _ => ?_))
      | exact ih0 _ _ _ _ _ _ _ _ _ _
      | exact ih1 _ _ _ _ _ _ _ _
      | exact ih2 _ _ _ _ _ _ _ _ _ _
      | exact ih3 _ _ _ _ _ _
      | exact ih4 _ _ _ _ _ _ _
      | exact ih5 _ _ _ _ _ _ _ _ _
      | exact ih6 _ _ _ _ _ _ _ _
      | exact ih7 _ _ _ _ _ _ _ _
      | exact foghornlaw20_awake.mono _
      | exact foghornref19_Encode.mono _ _ _
      | exact mend_Mend.mono _ _ _ _
      | exact mend_Within.mono _ _ _ _ _
      | exact reed_Whole.mono _ _ _
      | exact LeO.none _
      | refine LeO.ite ?_ ?_
      | refine LeO.bind ?_ (fun _ => ?_)
    · intro y0 y1 y2 y3 y4 y5
      unfold foghornlaw20_MendNever.j4
      repeat' first
      | (with_reducible exact ih0 _ _ _ _ _ _ _ _ _ _)
      | (with_reducible exact ih1 _ _ _ _ _ _ _ _)
      | (with_reducible exact ih2 _ _ _ _ _ _ _ _ _ _)
      | (with_reducible exact ih3 _ _ _ _ _ _)
      | (with_reducible exact ih4 _ _ _ _ _ _ _)
      | (with_reducible exact ih5 _ _ _ _ _ _ _ _ _)
      | (with_reducible exact ih6 _ _ _ _ _ _ _ _)
      | (with_reducible exact ih7 _ _ _ _ _ _ _ _)
      | (with_reducible exact foghornlaw20_awake.mono _)
      | (with_reducible exact foghornref19_Encode.mono _ _ _)
      | (with_reducible exact mend_Mend.mono _ _ _ _)
      | (with_reducible exact mend_Within.mono _ _ _ _ _)
      | (with_reducible exact reed_Whole.mono _ _ _)
      | (with_reducible exact LeO.refl _)
      | (with_reducible exact LeO.none _)
      | (with_reducible refine LeO.ite ?_ ?_)
      | (with_reducible refine LeO.bind ?_ (fun _ => ?_))
      | exact ih0 _ _ _ _ _ _ _ _ _ _
      | exact ih1 _ _ _ _ _ _ _ _
      | exact ih2 _ _ _ _ _ _ _ _ _ _
      | exact ih3 _ _ _ _ _ _
      | exact ih4 _ _ _ _ _ _ _
      | exact ih5 _ _ _ _ _ _ _ _ _
      | exact ih6 _ _ _ _ _ _ _ _
      | exact ih7 _ _ _ _ _ _ _ _
      | exact foghornlaw20_awake.mono _
      | exact foghornref19_Encode.mono _ _ _
      | exact mend_Mend.mono _ _ _ _
      | exact mend_Within.mono _ _ _ _ _
      | exact reed_Whole.mono _ _ _
      | exact LeO.none _
      | refine LeO.ite ?_ ?_
      | refine LeO.bind ?_ (fun _ => ?_)
    · intro y0 y1 y2 y3 y4 y5 y6
      unfold foghornlaw20_MendNever.l1
      repeat' first
      | (with_reducible exact ih0 _ _ _ _ _ _ _ _ _ _)
      | (with_reducible exact ih1 _ _ _ _ _ _ _ _)
      | (with_reducible exact ih2 _ _ _ _ _ _ _ _ _ _)
      | (with_reducible exact ih3 _ _ _ _ _ _)
      | (with_reducible exact ih4 _ _ _ _ _ _ _)
      | (with_reducible exact ih5 _ _ _ _ _ _ _ _ _)
      | (with_reducible exact ih6 _ _ _ _ _ _ _ _)
      | (with_reducible exact ih7 _ _ _ _ _ _ _ _)
      | (with_reducible exact foghornlaw20_awake.mono _)
      | (with_reducible exact foghornref19_Encode.mono _ _ _)
      | (with_reducible exact mend_Mend.mono _ _ _ _)
      | (with_reducible exact mend_Within.mono _ _ _ _ _)
      | (with_reducible exact reed_Whole.mono _ _ _)
      | (with_reducible exact LeO.refl _)
      | (with_reducible exact LeO.none _)
      | (with_reducible refine LeO.ite ?_ ?_)
      | (with_reducible refine LeO.bind ?_ (fun _ => ?_))
      | exact ih0 _ _ _ _ _ _ _ _ _ _
      | exact ih1 _ _ _ _ _ _ _ _
      | exact ih2 _ _ _ _ _ _ _ _ _ _
      | exact ih3 _ _ _ _ _ _
      | exact ih4 _ _ _ _ _ _ _
      | exact ih5 _ _ _ _ _ _ _ _ _
      | exact ih6 _ _ _ _ _ _ _ _
      | exact ih7 _ _ _ _ _ _ _ _
      | exact foghornlaw20_awake.mono _
      | exact foghornref19_Encode.mono _ _ _
      | exact mend_Mend.mono _ _ _ _
      | exact mend_Within.mono _ _ _ _ _
      | exact reed_Whole.mono _ _ _
      | exact LeO.none _
      | refine LeO.ite ?_ ?_
      | refine LeO.bind ?_ (fun _ => ?_)
    · intro y0 y1 y2 y3 y4 y5 y6 y7 y8
      unfold foghornlaw20_MendNever.l2
      repeat' first
      | (with_reducible exact ih0 _ _ _ _ _ _ _ _ _ _)
      | (with_reducible exact ih1 _ _ _ _ _ _ _ _)
      | (with_reducible exact ih2 _ _ _ _ _ _ _ _ _ _)
      | (with_reducible exact ih3 _ _ _ _ _ _)
      | (with_reducible exact ih4 _ _ _ _ _ _ _)
      | (with_reducible exact ih5 _ _ _ _ _ _ _ _ _)
      | (with_reducible exact ih6 _ _ _ _ _ _ _ _)
      | (with_reducible exact ih7 _ _ _ _ _ _ _ _)
      | (with_reducible exact foghornlaw20_awake.mono _)
      | (with_reducible exact foghornref19_Encode.mono _ _ _)
      | (with_reducible exact mend_Mend.mono _ _ _ _)
      | (with_reducible exact mend_Within.mono _ _ _ _ _)
      | (with_reducible exact reed_Whole.mono _ _ _)
      | (with_reducible exact LeO.refl _)
      | (with_reducible exact LeO.none _)
      | (with_reducible refine LeO.ite ?_ ?_)
      | (with_reducible refine LeO.bind ?_ (fun _ => ?_))
      | exact ih0 _ _ _ _ _ _ _ _ _ _
      | exact ih1 _ _ _ _ _ _ _ _
      | exact ih2 _ _ _ _ _ _ _ _ _ _
      | exact ih3 _ _ _ _ _ _
      | exact ih4 _ _ _ _ _ _ _
      | exact ih5 _ _ _ _ _ _ _ _ _
      | exact ih6 _ _ _ _ _ _ _ _
      | exact ih7 _ _ _ _ _ _ _ _
      | exact foghornlaw20_awake.mono _
      | exact foghornref19_Encode.mono _ _ _
      | exact mend_Mend.mono _ _ _ _
      | exact mend_Within.mono _ _ _ _ _
      | exact reed_Whole.mono _ _ _
      | exact LeO.none _
      | refine LeO.ite ?_ ?_
      | refine LeO.bind ?_ (fun _ => ?_)
    · intro y0 y1 y2 y3 y4 y5 y6 y7
      unfold foghornlaw20_MendNever.j7
      repeat' first
      | (with_reducible exact ih0 _ _ _ _ _ _ _ _ _ _)
      | (with_reducible exact ih1 _ _ _ _ _ _ _ _)
      | (with_reducible exact ih2 _ _ _ _ _ _ _ _ _ _)
      | (with_reducible exact ih3 _ _ _ _ _ _)
      | (with_reducible exact ih4 _ _ _ _ _ _ _)
      | (with_reducible exact ih5 _ _ _ _ _ _ _ _ _)
      | (with_reducible exact ih6 _ _ _ _ _ _ _ _)
      | (with_reducible exact ih7 _ _ _ _ _ _ _ _)
      | (with_reducible exact foghornlaw20_awake.mono _)
      | (with_reducible exact foghornref19_Encode.mono _ _ _)
      | (with_reducible exact mend_Mend.mono _ _ _ _)
      | (with_reducible exact mend_Within.mono _ _ _ _ _)
      | (with_reducible exact reed_Whole.mono _ _ _)
      | (with_reducible exact LeO.refl _)
      | (with_reducible exact LeO.none _)
      | (with_reducible refine LeO.ite ?_ ?_)
      | (with_reducible refine LeO.bind ?_ (fun _ => ?_))
      | exact ih0 _ _ _ _ _ _ _ _ _ _
      | exact ih1 _ _ _ _ _ _ _ _
      | exact ih2 _ _ _ _ _ _ _ _ _ _
      | exact ih3 _ _ _ _ _ _
      | exact ih4 _ _ _ _ _ _ _
      | exact ih5 _ _ _ _ _ _ _ _ _
      | exact ih6 _ _ _ _ _ _ _ _
      | exact ih7 _ _ _ _ _ _ _ _
      | exact foghornlaw20_awake.mono _
      | exact foghornref19_Encode.mono _ _ _
      | exact mend_Mend.mono _ _ _ _
      | exact mend_Within.mono _ _ _ _ _
      | exact reed_Whole.mono _ _ _
      | exact LeO.none _
      | refine LeO.ite ?_ ?_
      | refine LeO.bind ?_ (fun _ => ?_)
    · intro y0 y1 y2 y3 y4 y5 y6 y7
      unfold foghornlaw20_MendNever.l0
      repeat' first
      | (with_reducible exact ih0 _ _ _ _ _ _ _ _ _ _)
      | (with_reducible exact ih1 _ _ _ _ _ _ _ _)
      | (with_reducible exact ih2 _ _ _ _ _ _ _ _ _ _)
      | (with_reducible exact ih3 _ _ _ _ _ _)
      | (with_reducible exact ih4 _ _ _ _ _ _ _)
      | (with_reducible exact ih5 _ _ _ _ _ _ _ _ _)
      | (with_reducible exact ih6 _ _ _ _ _ _ _ _)
      | (with_reducible exact ih7 _ _ _ _ _ _ _ _)
      | (with_reducible exact foghornlaw20_awake.mono _)
      | (with_reducible exact foghornref19_Encode.mono _ _ _)
      | (with_reducible exact mend_Mend.mono _ _ _ _)
      | (with_reducible exact mend_Within.mono _ _ _ _ _)
      | (with_reducible exact reed_Whole.mono _ _ _)
      | (with_reducible exact LeO.refl _)
      | (with_reducible exact LeO.none _)
      | (with_reducible refine LeO.ite ?_ ?_)
      | (with_reducible refine LeO.bind ?_ (fun _ => ?_))
      | exact ih0 _ _ _ _ _ _ _ _ _ _
      | exact ih1 _ _ _ _ _ _ _ _
      | exact ih2 _ _ _ _ _ _ _ _ _ _
      | exact ih3 _ _ _ _ _ _
      | exact ih4 _ _ _ _ _ _ _
      | exact ih5 _ _ _ _ _ _ _ _ _
      | exact ih6 _ _ _ _ _ _ _ _
      | exact ih7 _ _ _ _ _ _ _ _
      | exact foghornlaw20_awake.mono _
      | exact foghornref19_Encode.mono _ _ _
      | exact mend_Mend.mono _ _ _ _
      | exact mend_Within.mono _ _ _ _ _
      | exact reed_Whole.mono _ _ _
      | exact LeO.none _
      | refine LeO.ite ?_ ?_
      | refine LeO.bind ?_ (fun _ => ?_)
theorem foghornlaw20_MendNever.mono : ∀ a0 a1 a2 a3 k, LeO (foghornlaw20_MendNever.f k a0 a1 a2 a3) (foghornlaw20_MendNever.f (k + 1) a0 a1 a2 a3) := by
  intro a0 a1 a2 a3 k
  obtain ⟨ih0, ih1, ih2, ih3, ih4, ih5, ih6, ih7⟩ := foghornlaw20_MendNever.mono_l k
  unfold foghornlaw20_MendNever.f
  repeat' first
      | (with_reducible exact ih0 _ _ _ _ _ _ _ _ _ _)
      | (with_reducible exact ih1 _ _ _ _ _ _ _ _)
      | (with_reducible exact ih2 _ _ _ _ _ _ _ _ _ _)
      | (with_reducible exact ih3 _ _ _ _ _ _)
      | (with_reducible exact ih4 _ _ _ _ _ _ _)
      | (with_reducible exact ih5 _ _ _ _ _ _ _ _ _)
      | (with_reducible exact ih6 _ _ _ _ _ _ _ _)
      | (with_reducible exact ih7 _ _ _ _ _ _ _ _)
      | (with_reducible exact foghornlaw20_awake.mono _)
      | (with_reducible exact foghornref19_Encode.mono _ _ _)
      | (with_reducible exact mend_Mend.mono _ _ _ _)
      | (with_reducible exact mend_Within.mono _ _ _ _ _)
      | (with_reducible exact reed_Whole.mono _ _ _)
      | (with_reducible exact LeO.refl _)
      | (with_reducible exact LeO.none _)
      | (with_reducible refine LeO.ite ?_ ?_)
      | (with_reducible refine LeO.bind ?_ (fun _ => ?_))
      | exact ih0 _ _ _ _ _ _ _ _ _ _
      | exact ih1 _ _ _ _ _ _ _ _
      | exact ih2 _ _ _ _ _ _ _ _ _ _
      | exact ih3 _ _ _ _ _ _
      | exact ih4 _ _ _ _ _ _ _
      | exact ih5 _ _ _ _ _ _ _ _ _
      | exact ih6 _ _ _ _ _ _ _ _
      | exact ih7 _ _ _ _ _ _ _ _
      | exact foghornlaw20_awake.mono _
      | exact foghornref19_Encode.mono _ _ _
      | exact mend_Mend.mono _ _ _ _
      | exact mend_Within.mono _ _ _ _ _
      | exact reed_Whole.mono _ _ _
      | exact LeO.none _
      | refine LeO.ite ?_ ?_
      | refine LeO.bind ?_ (fun _ => ?_)
/-- THE ONE PURE STATEMENT of foghornlaw20_MendNever: yours. -/
def foghornlaw20_MendNever.Pure : Prop := ∀ (a0 : ByteArray) (a1 : Int) (l2 : List Int) (a3 : ByteArray), a0.size ≤ 140737488351232 → (Lit.int .i64 a1).wf = true → l2.length ≤ maxLen → l2.length * 8 ≤ 140737488351232 → (∀ x ∈ l2, (Lit.int .i64 x).wf = true) → a3.size ≤ 140737488351232 → ∃ k, foghornlaw20_MendNever.f k a0 a1 l2 a3 = some true

end Go.Proofs.Ytncoakokdajibaa.Q
