-- Printed by myprint.py (ours) over the kit's printer, out of the translation.
import Derived.Test.YtmdeldiocaofkaaFieldPolynomialsK0
namespace Go.Proofs.Ytmdeldiocaofkaa.Q
open Go.RowKit Go.Proofs.YtmdeldiocaofkaaW.PrintWords Go.Proofs.YtmdeldiocaofkaaW.PrintLast Go.Proofs.YtmdeldiocaofkaaW.PrintMore
attribute [local go_sem] ArrW.ptrOf_slice max2_int min2_int max_two min_two max_three min_three max_four min_four   -- for this text's walks alone
set_option linter.unusedVariables false
set_option linter.unusedSimpArgs false

/-! ### field_Times: function 28 -/
def field_Times.l0 : Nat → Int → Int → Int → Option (Int)
  | 0, _, _, _ => none
  | k + 1, x0, x1, x5 => if x1 > 0 then (field_Times.l0 k (Go.bits .xor .u8 ((x0 * 2) % 256) (((x0 / 128) * 29) % 256)) (x1 / 2) (Go.bits .xor .u8 x5 ((x0 * (Go.bits .and .u8 x1 1)) % 256))) else (some x5)
def field_Times.f (k : Nat) (a0 : Int) (a1 : Int) : Option (Int) := field_Times.l0 k a0 a1 0
theorem field_Times.mono_l : ∀ k, (∀ y0 y1 y2, LeO (field_Times.l0 k y0 y1 y2) (field_Times.l0 (k + 1) y0 y1 y2))
  | 0 => fun _ _ _ r h => by simp [field_Times.l0] at h
  | k + 1 => by
    have ih0 := field_Times.mono_l k
    · intro y0 y1 y2
      unfold field_Times.l0
      repeat' first
      | (with_reducible exact ih0 _ _ _)
      | (with_reducible exact LeO.refl _)
      | (with_reducible exact LeO.none _)
      | (with_reducible refine LeO.ite ?_ ?_)
      | (with_reducible refine LeO.bind ?_ (fun _ => ?_))
      | exact ih0 _ _ _
      | exact LeO.none _
      | refine LeO.ite ?_ ?_
      | refine LeO.bind ?_ (fun _ => ?_)
theorem field_Times.mono : ∀ a0 a1 k, LeO (field_Times.f k a0 a1) (field_Times.f (k + 1) a0 a1) := by
  intro a0 a1 k
  have ih0 := field_Times.mono_l k
  unfold field_Times.f
  repeat' first
      | (with_reducible exact ih0 _ _ _)
      | (with_reducible exact LeO.refl _)
      | (with_reducible exact LeO.none _)
      | (with_reducible refine LeO.ite ?_ ?_)
      | (with_reducible refine LeO.bind ?_ (fun _ => ?_))
      | exact ih0 _ _ _
      | exact LeO.none _
      | refine LeO.ite ?_ ?_
      | refine LeO.bind ?_ (fun _ => ?_)

/-! ### field_raised: function 68 -/
def field_raised.l0 : Nat → Int → Int → Int → Option (Int)
  | 0, _, _, _ => none
  | k + 1, x0, x1, x5 => if x1 > 0 then (if (Go.bits .and .i64 x1 1) > 0 then ((field_Times.f k x5 x0).bind fun t101 => ((field_Times.f k x0 x0).bind fun t102 => (field_raised.l0 k t102 (x1 / 2) t101))) else ((field_Times.f k x0 x0).bind fun t103 => (field_raised.l0 k t103 (x1 / 2) x5))) else (some x5)
def field_raised.f (k : Nat) (a0 : Int) (a1 : Int) : Option (Int) := field_raised.l0 k a0 a1 1
theorem field_raised.mono_l : ∀ k, (∀ y0 y1 y2, LeO (field_raised.l0 k y0 y1 y2) (field_raised.l0 (k + 1) y0 y1 y2))
  | 0 => fun _ _ _ r h => by simp [field_raised.l0] at h
  | k + 1 => by
    have ih0 := field_raised.mono_l k
    · intro y0 y1 y2
      unfold field_raised.l0
      repeat' first
      | (with_reducible exact ih0 _ _ _)
      | (with_reducible exact field_Times.mono _ _ _)
      | (with_reducible exact LeO.refl _)
      | (with_reducible exact LeO.none _)
      | (with_reducible refine LeO.ite ?_ ?_)
      | (with_reducible refine LeO.bind ?_ (fun _ => ?_))
      | exact ih0 _ _ _
      | exact field_Times.mono _ _ _
      | exact LeO.none _
      | refine LeO.ite ?_ ?_
      | refine LeO.bind ?_ (fun _ => ?_)
theorem field_raised.mono : ∀ a0 a1 k, LeO (field_raised.f k a0 a1) (field_raised.f (k + 1) a0 a1) := by
  intro a0 a1 k
  have ih0 := field_raised.mono_l k
  unfold field_raised.f
  repeat' first
      | (with_reducible exact ih0 _ _ _)
      | (with_reducible exact field_Times.mono _ _ _)
      | (with_reducible exact LeO.refl _)
      | (with_reducible exact LeO.none _)
      | (with_reducible refine LeO.ite ?_ ?_)
      | (with_reducible refine LeO.bind ?_ (fun _ => ?_))
      | exact ih0 _ _ _
      | exact field_Times.mono _ _ _
      | exact LeO.none _
      | refine LeO.ite ?_ ?_
      | refine LeO.bind ?_ (fun _ => ?_)

/-! ### field_Exp: function 30 -/
def field_Exp.f (k : Nat) (a0 : Int) : Option (Int) := (field_raised.f k 2 (Int.tmod (wrap64 ((Int.tmod a0 255) + 255)) 255)).bind fun t104 => (some t104)
theorem field_Exp.mono : ∀ a0 k, LeO (field_Exp.f k a0) (field_Exp.f (k + 1) a0) := by
  intro a0 k
  unfold field_Exp.f
  repeat' first
      | (with_reducible exact field_raised.mono _ _ _)
      | (with_reducible exact LeO.refl _)
      | (with_reducible exact LeO.none _)
      | (with_reducible refine LeO.ite ?_ ?_)
      | (with_reducible refine LeO.bind ?_ (fun _ => ?_))
      | exact field_raised.mono _ _ _
      | exact LeO.none _
      | refine LeO.ite ?_ ?_
      | refine LeO.bind ?_ (fun _ => ?_)

/-! ### slices_Clone_uint8_uint8: function 80 -/
def slices_Clone_uint8_uint8.f (l0 : List Int) : Option (List Int) := if l0.length < 140737488355328 then some l0 else none

/-! ### field_poly: function 78 -/
def field_poly.l0 : Nat → List Int → Int → Option (List Int)
  | 0, _, _ => none
  | k + 1, x0, x3 => if x3 > 0 then (if 0 ≤ (wrap64 (x3 - 1)) then (if (wrap64 (x3 - 1)) < (x0.length : Int) then (if (rd x0 (wrap64 (x3 - 1))) = 0 then (field_poly.l0 k x0 (wrap64 (x3 - 1))) else (if 0 ≤ x3 then (if x3 ≤ (x0.length : Int) then ((slices_Clone_uint8_uint8.f (x0.take (x3 : Int).toNat)).bind fun t107 => (some t107)) else (none)) else (none))) else (none)) else (none)) else (if 0 ≤ x3 then (if x3 ≤ (x0.length : Int) then ((slices_Clone_uint8_uint8.f (x0.take (x3 : Int).toNat)).bind fun t111 => (some t111)) else (none)) else (none))
def field_poly.f (k : Nat) (l0 : List Int) : Option (List Int) := field_poly.l0 k l0 (l0.length : Int)
theorem field_poly.mono_l : ∀ k, (∀ y0 y1, LeO (field_poly.l0 k y0 y1) (field_poly.l0 (k + 1) y0 y1))
  | 0 => fun _ _ r h => by simp [field_poly.l0] at h
  | k + 1 => by
    have ih0 := field_poly.mono_l k
    · intro y0 y1
      unfold field_poly.l0
      repeat' first
      | (with_reducible exact ih0 _ _)
      | (with_reducible exact LeO.refl _)
      | (with_reducible exact LeO.none _)
      | (with_reducible refine LeO.ite ?_ ?_)
      | (with_reducible refine LeO.bind ?_ (fun _ => ?_))
      | exact ih0 _ _
      | exact LeO.none _
      | refine LeO.ite ?_ ?_
      | refine LeO.bind ?_ (fun _ => ?_)
theorem field_poly.mono : ∀ a0 k, LeO (field_poly.f k a0) (field_poly.f (k + 1) a0) := by
  intro a0 k
  have ih0 := field_poly.mono_l k
  unfold field_poly.f
  repeat' first
      | (with_reducible exact ih0 _ _)
      | (with_reducible exact LeO.refl _)
      | (with_reducible exact LeO.none _)
      | (with_reducible refine LeO.ite ?_ ?_)
      | (with_reducible refine LeO.bind ?_ (fun _ => ?_))
      | exact ih0 _ _
      | exact LeO.none _
      | refine LeO.ite ?_ ?_
      | refine LeO.bind ?_ (fun _ => ?_)

/-! ### field_product: function 71 -/
mutual
def field_product.l0 : Nat → List Int → List Int → List Int → Int → Int → Option (List Int)
  | 0, _, _, _, _, _ => none
  | k + 1, x1, x5, x16, x17, x18 => if x18 < x17 then (if 0 ≤ x18 then (if x18 < (x16.length : Int) then (field_product.l1 k x1 x5 x18 (rd x16 x18) x16 x17 x18 x1 (x1.length : Int) 0) else (none)) else (none)) else ((field_poly.f k x5).bind fun t117 => (some t117))
def field_product.l1 : Nat → List Int → List Int → Int → Int → List Int → Int → Int → List Int → Int → Int → Option (List Int)
  | 0, _, _, _, _, _, _, _, _, _, _ => none
  | k + 1, x1, x5, x6, x7, x16, x17, x18, x23, x24, x25 => if x25 < x24 then (if 0 ≤ x25 then (if x25 < (x23.length : Int) then (if 0 ≤ (wrap64 (x6 + x25)) then (if (wrap64 (x6 + x25)) < (x5.length : Int) then ((field_Times.f k x7 (rd x23 x25)).bind fun t123 => (field_product.l1 k x1 (x5.set ((wrap64 (x6 + x25)) : Int).toNat (Go.bits .xor .u8 (rd x5 (wrap64 (x6 + x25))) t123)) x6 x7 x16 x17 x18 x23 x24 (wrap64 (x25 + 1)))) else (none)) else (none)) else (none)) else (none)) else (field_product.l0 k x1 x5 x16 x17 (wrap64 (x18 + 1)))
end
def field_product.f (k : Nat) (l0 : List Int) (l1 : List Int) : Option (List Int) := if 0 ≤ (wrap64 ((l0.length : Int) + (l1.length : Int))) then (if (wrap64 ((l0.length : Int) + (l1.length : Int)) : Int).toNat ≤ 281474976710656 then (field_product.l0 k l1 (List.replicate (wrap64 ((l0.length : Int) + (l1.length : Int)) : Int).toNat 0) l0 (l0.length : Int) 0) else (none)) else (none)
theorem field_product.mono_l : ∀ k, (∀ y0 y1 y2 y3 y4, LeO (field_product.l0 k y0 y1 y2 y3 y4) (field_product.l0 (k + 1) y0 y1 y2 y3 y4)) ∧ (∀ y0 y1 y2 y3 y4 y5 y6 y7 y8 y9, LeO (field_product.l1 k y0 y1 y2 y3 y4 y5 y6 y7 y8 y9) (field_product.l1 (k + 1) y0 y1 y2 y3 y4 y5 y6 y7 y8 y9))
  | 0 => ⟨fun _ _ _ _ _ r h => by simp [field_product.l0] at h, fun _ _ _ _ _ _ _ _ _ _ r h => by simp [field_product.l1] at h⟩
  | k + 1 => by
    obtain ⟨ih0, ih1⟩ := field_product.mono_l k
    refine ⟨?_, ?_⟩
    · intro y0 y1 y2 y3 y4
      unfold field_product.l0
      repeat' first
      | (with_reducible exact ih0 _ _ _ _ _)
      | (with_reducible exact ih1 _ _ _ _ _ _ _ _ _ _)
      | (with_reducible exact field_Times.mono _ _ _)
      | (with_reducible exact field_poly.mono _ _)
      | (with_reducible exact LeO.refl _)
      | (with_reducible exact LeO.none _)
      | (with_reducible refine LeO.ite ?_ ?_)
      | (with_reducible refine LeO.bind ?_ (fun _ => ?_))
      | exact ih0 _ _ _ _ _
      | exact ih1 _ _ _ _ _ _ _ _ _ _
      | exact field_Times.mono _ _ _
      | exact field_poly.mono _ _
      | exact LeO.none _
      | refine LeO.ite ?_ ?_
      | refine LeO.bind ?_ (fun _ => ?_)
    · intro y0 y1 y2 y3 y4 y5 y6 y7 y8 y9
      unfold field_product.l1
      repeat' first
      | (with_reducible exact ih0 _ _ _ _ _)
      | (with_reducible exact ih1 _ _ _ _ _ _ _ _ _ _)
      | (with_reducible exact field_Times.mono _ _ _)
      | (with_reducible exact field_poly.mono _ _)
      | (with_reducible exact LeO.refl _)
      | (with_reducible exact LeO.none _)
      | (with_reducible refine LeO.ite ?_ ?_)
      | (with_reducible refine LeO.bind ?_ (fun _ => ?_))
      | exact ih0 _ _ _ _ _
      | exact ih1 _ _ _ _ _ _ _ _ _ _
      | exact field_Times.mono _ _ _
      | exact field_poly.mono _ _
      | exact LeO.none _
      | refine LeO.ite ?_ ?_
      | refine LeO.bind ?_ (fun _ => ?_)
theorem field_product.mono : ∀ a0 a1 k, LeO (field_product.f k a0 a1) (field_product.f (k + 1) a0 a1) := by
  intro a0 a1 k
  obtain ⟨ih0, ih1⟩ := field_product.mono_l k
  unfold field_product.f
  repeat' first
      | (with_reducible exact ih0 _ _ _ _ _)
      | (with_reducible exact ih1 _ _ _ _ _ _ _ _ _ _)
      | (with_reducible exact field_Times.mono _ _ _)
      | (with_reducible exact field_poly.mono _ _)
      | (with_reducible exact LeO.refl _)
      | (with_reducible exact LeO.none _)
      | (with_reducible refine LeO.ite ?_ ?_)
      | (with_reducible refine LeO.bind ?_ (fun _ => ?_))
      | exact ih0 _ _ _ _ _
      | exact ih1 _ _ _ _ _ _ _ _ _ _
      | exact field_Times.mono _ _ _
      | exact field_poly.mono _ _
      | exact LeO.none _
      | refine LeO.ite ?_ ?_
      | refine LeO.bind ?_ (fun _ => ?_)
def field_product.T8 : Bool × List (List Nat × List Nat) := (true, [([], []), ([], []), ([], []), ([1, 2], [1, 2]), ([0, 3], [0, 3]), ([4], [4]), ([], []), ([], []), ([6, 7], [6, 7]), ([5, 8], [5, 8]), ([0, 3, 0, 1, 2, 3, 4, 5, 6, 7, 8, 9], [0, 3]), ([10, 9, 8, 0, 1, 2, 3, 4, 5, 6, 7, 8, 9], [9, 10])])
def field_product.B8 : List Nat := [0, 0, 0, 6, 15, 31, 0, 0, 192, 511, 1023, 2047]
theorem field_product.tab8 : rtab .any (opsOf Try.f71 8) = field_product.T8 := by kernel_rfl
theorem field_product.bits8 : waitsOk field_product.T8.2 field_product.B8 = true := by kernel_rfl

/-! ### field_Of: function 57 -/
def field_Of.l0 : Nat → List Int → List Int → Int → Int → Option (List Int × Int)
  | 0, _, _, _, _ => none
  | k + 1, x4, x11, x12, x13 => if x13 < x12 then (if 0 ≤ x13 then (if x13 < (x11.length : Int) then ((field_product.f k x4 (([rd x11 x13, 1] : List Int))).bind fun t132 => (field_Of.l0 k t132 x11 x12 (wrap64 (x13 + 1)))) else (none)) else (none)) else (some (x4, 0))
def field_Of.f (k : Nat) (l0 : List Int) : Option (List Int × Int) := if (l0.length : Int) ≥ 512 then (some (([] : List Int), 1)) else (field_Of.l0 k (([1] : List Int)) l0 (l0.length : Int) 0)
theorem field_Of.mono_l : ∀ k, (∀ y0 y1 y2 y3, LeO (field_Of.l0 k y0 y1 y2 y3) (field_Of.l0 (k + 1) y0 y1 y2 y3))
  | 0 => fun _ _ _ _ r h => by simp [field_Of.l0] at h
  | k + 1 => by
    have ih0 := field_Of.mono_l k
    · intro y0 y1 y2 y3
      unfold field_Of.l0
      repeat' first
      | (with_reducible exact ih0 _ _ _ _)
      | (with_reducible exact field_product.mono _ _ _)
      | (with_reducible exact LeO.refl _)
      | (with_reducible exact LeO.none _)
      | (with_reducible refine LeO.ite ?_ ?_)
      | (with_reducible refine LeO.bind ?_ (fun _ => ?_))
      | exact ih0 _ _ _ _
      | exact field_product.mono _ _ _
      | exact LeO.none _
      | refine LeO.ite ?_ ?_
      | refine LeO.bind ?_ (fun _ => ?_)
theorem field_Of.mono : ∀ a0 k, LeO (field_Of.f k a0) (field_Of.f (k + 1) a0) := by
  intro a0 k
  have ih0 := field_Of.mono_l k
  unfold field_Of.f
  repeat' first
      | (with_reducible exact ih0 _ _ _ _)
      | (with_reducible exact field_product.mono _ _ _)
      | (with_reducible exact LeO.refl _)
      | (with_reducible exact LeO.none _)
      | (with_reducible refine LeO.ite ?_ ?_)
      | (with_reducible refine LeO.bind ?_ (fun _ => ?_))
      | exact ih0 _ _ _ _
      | exact field_product.mono _ _ _
      | exact LeO.none _
      | refine LeO.ite ?_ ?_
      | refine LeO.bind ?_ (fun _ => ?_)

/-! ### reed_checks: function 65 -/
def reed_checks.f (a0 : Int) : Option (Bool) := if a0 ≥ 2 then (if a0 ≤ 64 then (some ((Int.tmod a0 2) == 0)) else (some false)) else (some false)

/-! ### reed_Generator: function 15 -/
def reed_Generator.l0 : Nat → List Int → Int → Int → Option (List Int × Int)
  | 0, _, _, _ => none
  | k + 1, x4, x11, x12 => if x12 < x11 then ((field_Exp.f k x12).bind fun t139 => (if 0 ≤ x12 then (if x12 < (x4.length : Int) then (reed_Generator.l0 k (x4.set (x12 : Int).toNat t139) x11 (wrap64 (x12 + 1))) else (none)) else (none))) else ((field_Of.f k x4).bind fun bt141 => (some (bt141.1, bt141.2)))
def reed_Generator.f (k : Nat) (a0 : Int) : Option (List Int × Int) := (reed_checks.f a0).bind fun t135 => (if t135 = true then (if 0 ≤ a0 then (if (a0 : Int).toNat ≤ 281474976710656 then (reed_Generator.l0 k (List.replicate (a0 : Int).toNat 0) a0 0) else (none)) else (none)) else (some (([] : List Int), 1)))
theorem reed_Generator.mono_l : ∀ k, (∀ y0 y1 y2, LeO (reed_Generator.l0 k y0 y1 y2) (reed_Generator.l0 (k + 1) y0 y1 y2))
  | 0 => fun _ _ _ r h => by simp [reed_Generator.l0] at h
  | k + 1 => by
    have ih0 := reed_Generator.mono_l k
    · intro y0 y1 y2
      unfold reed_Generator.l0
      repeat' first
      | (with_reducible exact ih0 _ _ _)
      | (with_reducible exact field_Exp.mono _ _)
      | (with_reducible exact field_Of.mono _ _)
      | (with_reducible exact LeO.refl _)
      | (with_reducible exact LeO.none _)
      | (with_reducible refine LeO.ite ?_ ?_)
      | (with_reducible refine LeO.bind ?_ (fun _ => ?_))
      | exact ih0 _ _ _
      | exact field_Exp.mono _ _
      | exact field_Of.mono _ _
      | exact LeO.none _
      | refine LeO.ite ?_ ?_
      | refine LeO.bind ?_ (fun _ => ?_)
theorem reed_Generator.mono : ∀ a0 k, LeO (reed_Generator.f k a0) (reed_Generator.f (k + 1) a0) := by
  intro a0 k
  have ih0 := reed_Generator.mono_l k
  unfold reed_Generator.f
  repeat' first
      | (with_reducible exact ih0 _ _ _)
      | (with_reducible exact field_Exp.mono _ _)
      | (with_reducible exact field_Of.mono _ _)
      | (with_reducible exact LeO.refl _)
      | (with_reducible exact LeO.none _)
      | (with_reducible refine LeO.ite ?_ ?_)
      | (with_reducible refine LeO.bind ?_ (fun _ => ?_))
      | exact ih0 _ _ _
      | exact field_Exp.mono _ _
      | exact field_Of.mono _ _
      | exact LeO.none _
      | refine LeO.ite ?_ ?_
      | refine LeO.bind ?_ (fun _ => ?_)

/-! ### field_Over: function 20 -/
def field_Over.f (k : Nat) (a0 : Int) (a1 : Int) : Option (Int × Int) := if a1 = 0 then (some (0, 6)) else ((field_raised.f k a1 254).bind fun t186 => ((field_Times.f k a0 t186).bind fun t187 => (some (t187, 0))))
theorem field_Over.mono : ∀ a0 a1 k, LeO (field_Over.f k a0 a1) (field_Over.f (k + 1) a0 a1) := by
  intro a0 a1 k
  unfold field_Over.f
  repeat' first
      | (with_reducible exact field_Times.mono _ _ _)
      | (with_reducible exact field_raised.mono _ _ _)
      | (with_reducible exact LeO.refl _)
      | (with_reducible exact LeO.none _)
      | (with_reducible refine LeO.ite ?_ ?_)
      | (with_reducible refine LeO.bind ?_ (fun _ => ?_))
      | exact field_Times.mono _ _ _
      | exact field_raised.mono _ _ _
      | exact LeO.none _
      | refine LeO.ite ?_ ?_
      | refine LeO.bind ?_ (fun _ => ?_)

/-! ### foghornref18_Times: function 29 -/
mutual
def foghornref18_Times.l0 : Nat → Int → Int → Int → Int → Option (Int)
  | 0, _, _, _, _ => none
  | k + 1, x0, x1, x5, x6 => if x6 < 8 then (foghornref18_Times.l1 k x0 x1 x5 x6 0) else (foghornref18_Times.l2 k x5 14)
def foghornref18_Times.l1 : Nat → Int → Int → Int → Int → Int → Option (Int)
  | 0, _, _, _, _, _ => none
  | k + 1, x0, x1, x5, x6, x7 => if x7 < 8 then (if 0 ≤ x6 then (if (Go.bits .and .u8 (shr .u8 x0 x6) 1) = 1 then (if 0 ≤ x7 then (if (Go.bits .and .u8 (shr .u8 x1 x7) 1) = 1 then (if 0 ≤ (wrap64 (x6 + x7)) then (foghornref18_Times.l1 k x0 x1 (Go.bits .xor .i64 x5 (shl .i64 1 (wrap64 (x6 + x7)))) x6 (wrap64 (x7 + 1))) else (none)) else (foghornref18_Times.l1 k x0 x1 x5 x6 (wrap64 (x7 + 1)))) else (none)) else (foghornref18_Times.l1 k x0 x1 x5 x6 (wrap64 (x7 + 1)))) else (none)) else (foghornref18_Times.l0 k x0 x1 x5 (wrap64 (x6 + 1)))
def foghornref18_Times.l2 : Nat → Int → Int → Option (Int)
  | 0, _, _ => none
  | k + 1, x5, x8 => if x8 ≥ 8 then (if 0 ≤ x8 then (if (Go.bits .and .i64 (shr .i64 x5 x8) 1) = 1 then (if 0 ≤ (wrap64 (x8 - 8)) then (foghornref18_Times.l2 k (Go.bits .xor .i64 x5 (shl .i64 285 (wrap64 (x8 - 8)))) (wrap64 (x8 - 1))) else (none)) else (foghornref18_Times.l2 k x5 (wrap64 (x8 - 1)))) else (none)) else (some ((x5) % 256))
end
def foghornref18_Times.f (k : Nat) (a0 : Int) (a1 : Int) : Option (Int) := foghornref18_Times.l0 k a0 a1 0 0
theorem foghornref18_Times.mono_l : ∀ k, (∀ y0 y1 y2 y3, LeO (foghornref18_Times.l0 k y0 y1 y2 y3) (foghornref18_Times.l0 (k + 1) y0 y1 y2 y3)) ∧ (∀ y0 y1 y2 y3 y4, LeO (foghornref18_Times.l1 k y0 y1 y2 y3 y4) (foghornref18_Times.l1 (k + 1) y0 y1 y2 y3 y4)) ∧ (∀ y0 y1, LeO (foghornref18_Times.l2 k y0 y1) (foghornref18_Times.l2 (k + 1) y0 y1))
  | 0 => ⟨fun _ _ _ _ r h => by simp [foghornref18_Times.l0] at h, fun _ _ _ _ _ r h => by simp [foghornref18_Times.l1] at h, fun _ _ r h => by simp [foghornref18_Times.l2] at h⟩
  | k + 1 => by
    obtain ⟨ih0, ih1, ih2⟩ := foghornref18_Times.mono_l k
    refine ⟨?_, ?_, ?_⟩
    · intro y0 y1 y2 y3
      unfold foghornref18_Times.l0
      repeat' first
      | (with_reducible exact ih0 _ _ _ _)
      | (with_reducible exact ih1 _ _ _ _ _)
      | (with_reducible exact ih2 _ _)
      | (with_reducible exact LeO.refl _)
      | (with_reducible exact LeO.none _)
      | (with_reducible refine LeO.ite ?_ ?_)
      | (with_reducible refine LeO.bind ?_ (fun _ => ?_))
      | exact ih0 _ _ _ _
      | exact ih1 _ _ _ _ _
      | exact ih2 _ _
      | exact LeO.none _
      | refine LeO.ite ?_ ?_
      | refine LeO.bind ?_ (fun _ => ?_)
    · intro y0 y1 y2 y3 y4
      unfold foghornref18_Times.l1
      repeat' first
      | (with_reducible exact ih0 _ _ _ _)
      | (with_reducible exact ih1 _ _ _ _ _)
      | (with_reducible exact ih2 _ _)
      | (with_reducible exact LeO.refl _)
      | (with_reducible exact LeO.none _)
      | (with_reducible refine LeO.ite ?_ ?_)
      | (with_reducible refine LeO.bind ?_ (fun _ => ?_))
      | exact ih0 _ _ _ _
      | exact ih1 _ _ _ _ _
      | exact ih2 _ _
      | exact LeO.none _
      | refine LeO.ite ?_ ?_
      | refine LeO.bind ?_ (fun _ => ?_)
    · intro y0 y1
      unfold foghornref18_Times.l2
      repeat' first
      | (with_reducible exact ih0 _ _ _ _)
      | (with_reducible exact ih1 _ _ _ _ _)
      | (with_reducible exact ih2 _ _)
      | (with_reducible exact LeO.refl _)
      | (with_reducible exact LeO.none _)
      | (with_reducible refine LeO.ite ?_ ?_)
      | (with_reducible refine LeO.bind ?_ (fun _ => ?_))
      | exact ih0 _ _ _ _
      | exact ih1 _ _ _ _ _
      | exact ih2 _ _
      | exact LeO.none _
      | refine LeO.ite ?_ ?_
      | refine LeO.bind ?_ (fun _ => ?_)
theorem foghornref18_Times.mono : ∀ a0 a1 k, LeO (foghornref18_Times.f k a0 a1) (foghornref18_Times.f (k + 1) a0 a1) := by
  intro a0 a1 k
  obtain ⟨ih0, ih1, ih2⟩ := foghornref18_Times.mono_l k
  unfold foghornref18_Times.f
  repeat' first
      | (with_reducible exact ih0 _ _ _ _)
      | (with_reducible exact ih1 _ _ _ _ _)
      | (with_reducible exact ih2 _ _)
      | (with_reducible exact LeO.refl _)
      | (with_reducible exact LeO.none _)
      | (with_reducible refine LeO.ite ?_ ?_)
      | (with_reducible refine LeO.bind ?_ (fun _ => ?_))
      | exact ih0 _ _ _ _
      | exact ih1 _ _ _ _ _
      | exact ih2 _ _
      | exact LeO.none _
      | refine LeO.ite ?_ ?_
      | refine LeO.bind ?_ (fun _ => ?_)

/-! ### foghornref18_Over: function 21 -/
def foghornref18_Over.l0 : Nat → Int → Int → Int → Option (Int × Int)
  | 0, _, _, _ => none
  | k + 1, x0, x1, x6 => if x6 < 256 then ((foghornref18_Times.f k ((x6) % 256) x1).bind fun t188 => (if t188 = x0 then (some ((x6) % 256, 0)) else (foghornref18_Over.l0 k x0 x1 (wrap64 (x6 + 1))))) else (some (0, 6))
def foghornref18_Over.f (k : Nat) (a0 : Int) (a1 : Int) : Option (Int × Int) := if a1 = 0 then (some (0, 6)) else (foghornref18_Over.l0 k a0 a1 0)
theorem foghornref18_Over.mono_l : ∀ k, (∀ y0 y1 y2, LeO (foghornref18_Over.l0 k y0 y1 y2) (foghornref18_Over.l0 (k + 1) y0 y1 y2))
  | 0 => fun _ _ _ r h => by simp [foghornref18_Over.l0] at h
  | k + 1 => by
    have ih0 := foghornref18_Over.mono_l k
    · intro y0 y1 y2
      unfold foghornref18_Over.l0
      repeat' first
      | (with_reducible exact ih0 _ _ _)
      | (with_reducible exact foghornref18_Times.mono _ _ _)
      | (with_reducible exact LeO.refl _)
      | (with_reducible exact LeO.none _)
      | (with_reducible refine LeO.ite ?_ ?_)
      | (with_reducible refine LeO.bind ?_ (fun _ => ?_))
      | exact ih0 _ _ _
      | exact foghornref18_Times.mono _ _ _
      | exact LeO.none _
      | refine LeO.ite ?_ ?_
      | refine LeO.bind ?_ (fun _ => ?_)
theorem foghornref18_Over.mono : ∀ a0 a1 k, LeO (foghornref18_Over.f k a0 a1) (foghornref18_Over.f (k + 1) a0 a1) := by
  intro a0 a1 k
  have ih0 := foghornref18_Over.mono_l k
  unfold foghornref18_Over.f
  repeat' first
      | (with_reducible exact ih0 _ _ _)
      | (with_reducible exact foghornref18_Times.mono _ _ _)
      | (with_reducible exact LeO.refl _)
      | (with_reducible exact LeO.none _)
      | (with_reducible refine LeO.ite ?_ ?_)
      | (with_reducible refine LeO.bind ?_ (fun _ => ?_))
      | exact ih0 _ _ _
      | exact foghornref18_Times.mono _ _ _
      | exact LeO.none _
      | refine LeO.ite ?_ ?_
      | refine LeO.bind ?_ (fun _ => ?_)

/-! ### field_Power: function 22 -/
def field_Power.j0 : Nat → Int → Int → Bool → Option (Int × Int)
  | 0, _, _, _ => none
  | k + 1, x0, x1, x6 => if x6 = true then (some (0, 6)) else (if x0 = 0 then (if x1 > 0 then (some (0, 0)) else ((field_raised.f k x0 (Int.tmod (wrap64 ((Int.tmod x1 255) + 255)) 255)).bind fun t189 => (some (t189, 0)))) else ((field_raised.f k x0 (Int.tmod (wrap64 ((Int.tmod x1 255) + 255)) 255)).bind fun t190 => (some (t190, 0))))
def field_Power.f (k : Nat) (a0 : Int) (a1 : Int) : Option (Int × Int) := if a0 = 0 then (field_Power.j0 k a0 a1 (decide (a1 < 0))) else (field_Power.j0 k a0 a1 false)
theorem field_Power.mono_l : ∀ k, (∀ y0 y1 y2, LeO (field_Power.j0 k y0 y1 y2) (field_Power.j0 (k + 1) y0 y1 y2))
  | 0 => fun _ _ _ r h => by simp [field_Power.j0] at h
  | k + 1 => by
    have ih0 := field_Power.mono_l k
    · intro y0 y1 y2
      unfold field_Power.j0
      repeat' first
      | (with_reducible exact ih0 _ _ _)
      | (with_reducible exact field_raised.mono _ _ _)
      | (with_reducible exact LeO.refl _)
      | (with_reducible exact LeO.none _)
      | (with_reducible refine LeO.ite ?_ ?_)
      | (with_reducible refine LeO.bind ?_ (fun _ => ?_))
      | exact ih0 _ _ _
      | exact field_raised.mono _ _ _
      | exact LeO.none _
      | refine LeO.ite ?_ ?_
      | refine LeO.bind ?_ (fun _ => ?_)
theorem field_Power.mono : ∀ a0 a1 k, LeO (field_Power.f k a0 a1) (field_Power.f (k + 1) a0 a1) := by
  intro a0 a1 k
  have ih0 := field_Power.mono_l k
  unfold field_Power.f
  repeat' first
      | (with_reducible exact ih0 _ _ _)
      | (with_reducible exact field_raised.mono _ _ _)
      | (with_reducible exact LeO.refl _)
      | (with_reducible exact LeO.none _)
      | (with_reducible refine LeO.ite ?_ ?_)
      | (with_reducible refine LeO.bind ?_ (fun _ => ?_))
      | exact ih0 _ _ _
      | exact field_raised.mono _ _ _
      | exact LeO.none _
      | refine LeO.ite ?_ ?_
      | refine LeO.bind ?_ (fun _ => ?_)

/-! ### foghornref18_Power: function 23 -/
mutual
def foghornref18_Power.j0 : Nat → Int → Int → Option (Int × Int)
  | 0, _, _ => none
  | k + 1, x0, x1 => foghornref18_Power.l0 k x0 x1 1 0
def foghornref18_Power.l0 : Nat → Int → Int → Int → Int → Option (Int × Int)
  | 0, _, _, _, _ => none
  | k + 1, x0, x1, x6, x7 => if x7 < x1 then ((foghornref18_Times.f k x6 x0).bind fun t191 => (foghornref18_Power.l0 k x0 x1 t191 (wrap64 (x7 + 1)))) else (some (x6, 0))
end
def foghornref18_Power.f (k : Nat) (a0 : Int) (a1 : Int) : Option (Int × Int) := if a0 = 0 then (if a1 < 0 then (some (0, 6)) else (if a1 = 0 then (some (1, 0)) else (some (0, 0)))) else (if (Int.tmod a1 255) < 0 then (foghornref18_Power.j0 k a0 (wrap64 ((Int.tmod a1 255) + 255))) else (foghornref18_Power.j0 k a0 (Int.tmod a1 255)))
theorem foghornref18_Power.mono_l : ∀ k, (∀ y0 y1, LeO (foghornref18_Power.j0 k y0 y1) (foghornref18_Power.j0 (k + 1) y0 y1)) ∧ (∀ y0 y1 y2 y3, LeO (foghornref18_Power.l0 k y0 y1 y2 y3) (foghornref18_Power.l0 (k + 1) y0 y1 y2 y3))
  | 0 => ⟨fun _ _ r h => by simp [foghornref18_Power.j0] at h, fun _ _ _ _ r h => by simp [foghornref18_Power.l0] at h⟩
  | k + 1 => by
    obtain ⟨ih0, ih1⟩ := foghornref18_Power.mono_l k
    refine ⟨?_, ?_⟩
    · intro y0 y1
      unfold foghornref18_Power.j0
      repeat' first
      | (with_reducible exact ih0 _ _)
      | (with_reducible exact ih1 _ _ _ _)
      | (with_reducible exact foghornref18_Times.mono _ _ _)
      | (with_reducible exact LeO.refl _)
      | (with_reducible exact LeO.none _)
      | (with_reducible refine LeO.ite ?_ ?_)
      | (with_reducible refine LeO.bind ?_ (fun _ => ?_))
      | exact ih0 _ _
      | exact ih1 _ _ _ _
      | exact foghornref18_Times.mono _ _ _
      | exact LeO.none _
      | refine LeO.ite ?_ ?_
      | refine LeO.bind ?_ (fun _ => ?_)
    · intro y0 y1 y2 y3
      unfold foghornref18_Power.l0
      repeat' first
      | (with_reducible exact ih0 _ _)
      | (with_reducible exact ih1 _ _ _ _)
      | (with_reducible exact foghornref18_Times.mono _ _ _)
      | (with_reducible exact LeO.refl _)
      | (with_reducible exact LeO.none _)
      | (with_reducible refine LeO.ite ?_ ?_)
      | (with_reducible refine LeO.bind ?_ (fun _ => ?_))
      | exact ih0 _ _
      | exact ih1 _ _ _ _
      | exact foghornref18_Times.mono _ _ _
      | exact LeO.none _
      | refine LeO.ite ?_ ?_
      | refine LeO.bind ?_ (fun _ => ?_)
theorem foghornref18_Power.mono : ∀ a0 a1 k, LeO (foghornref18_Power.f k a0 a1) (foghornref18_Power.f (k + 1) a0 a1) := by
  intro a0 a1 k
  obtain ⟨ih0, ih1⟩ := foghornref18_Power.mono_l k
  unfold foghornref18_Power.f
  repeat' first
      | (with_reducible exact ih0 _ _)
      | (with_reducible exact ih1 _ _ _ _)
      | (with_reducible exact foghornref18_Times.mono _ _ _)
      | (with_reducible exact LeO.refl _)
      | (with_reducible exact LeO.none _)
      | (with_reducible refine LeO.ite ?_ ?_)
      | (with_reducible refine LeO.bind ?_ (fun _ => ?_))
      | exact ih0 _ _
      | exact ih1 _ _ _ _
      | exact foghornref18_Times.mono _ _ _
      | exact LeO.none _
      | refine LeO.ite ?_ ?_
      | refine LeO.bind ?_ (fun _ => ?_)

/-! ### field_Log: function 24 -/
def field_Log.l0 : Nat → Int → Int → Int → Option (Int × Int)
  | 0, _, _, _ => none
  | k + 1, x0, x4, x5 => if x5 = x0 then (some (x4, 0)) else ((field_Times.f k x5 2).bind fun t192 => (field_Log.l0 k x0 (wrap64 (x4 + 1)) t192))
def field_Log.f (k : Nat) (a0 : Int) : Option (Int × Int) := if a0 = 0 then (some (0, 6)) else (field_Log.l0 k a0 0 1)
theorem field_Log.mono_l : ∀ k, (∀ y0 y1 y2, LeO (field_Log.l0 k y0 y1 y2) (field_Log.l0 (k + 1) y0 y1 y2))
  | 0 => fun _ _ _ r h => by simp [field_Log.l0] at h
  | k + 1 => by
    have ih0 := field_Log.mono_l k
    · intro y0 y1 y2
      unfold field_Log.l0
      repeat' first
      | (with_reducible exact ih0 _ _ _)
      | (with_reducible exact field_Times.mono _ _ _)
      | (with_reducible exact LeO.refl _)
      | (with_reducible exact LeO.none _)
      | (with_reducible refine LeO.ite ?_ ?_)
      | (with_reducible refine LeO.bind ?_ (fun _ => ?_))
      | exact ih0 _ _ _
      | exact field_Times.mono _ _ _
      | exact LeO.none _
      | refine LeO.ite ?_ ?_
      | refine LeO.bind ?_ (fun _ => ?_)
theorem field_Log.mono : ∀ a0 k, LeO (field_Log.f k a0) (field_Log.f (k + 1) a0) := by
  intro a0 k
  have ih0 := field_Log.mono_l k
  unfold field_Log.f
  repeat' first
      | (with_reducible exact ih0 _ _ _)
      | (with_reducible exact field_Times.mono _ _ _)
      | (with_reducible exact LeO.refl _)
      | (with_reducible exact LeO.none _)
      | (with_reducible refine LeO.ite ?_ ?_)
      | (with_reducible refine LeO.bind ?_ (fun _ => ?_))
      | exact ih0 _ _ _
      | exact field_Times.mono _ _ _
      | exact LeO.none _
      | refine LeO.ite ?_ ?_
      | refine LeO.bind ?_ (fun _ => ?_)

/-! ### foghornref18_Log: function 25 -/
def foghornref18_Log.l0 : Nat → Int → Int → Int → Option (Int × Int)
  | 0, _, _, _ => none
  | k + 1, x0, x4, x5 => if x5 < 255 then (if x4 = x0 then (some (x5, 0)) else ((foghornref18_Times.f k x4 2).bind fun t193 => (foghornref18_Log.l0 k x0 t193 (wrap64 (x5 + 1))))) else (some (0, 6))
def foghornref18_Log.f (k : Nat) (a0 : Int) : Option (Int × Int) := foghornref18_Log.l0 k a0 1 0
theorem foghornref18_Log.mono_l : ∀ k, (∀ y0 y1 y2, LeO (foghornref18_Log.l0 k y0 y1 y2) (foghornref18_Log.l0 (k + 1) y0 y1 y2))
  | 0 => fun _ _ _ r h => by simp [foghornref18_Log.l0] at h
  | k + 1 => by
    have ih0 := foghornref18_Log.mono_l k
    · intro y0 y1 y2
      unfold foghornref18_Log.l0
      repeat' first
      | (with_reducible exact ih0 _ _ _)
      | (with_reducible exact foghornref18_Times.mono _ _ _)
      | (with_reducible exact LeO.refl _)
      | (with_reducible exact LeO.none _)
      | (with_reducible refine LeO.ite ?_ ?_)
      | (with_reducible refine LeO.bind ?_ (fun _ => ?_))
      | exact ih0 _ _ _
      | exact foghornref18_Times.mono _ _ _
      | exact LeO.none _
      | refine LeO.ite ?_ ?_
      | refine LeO.bind ?_ (fun _ => ?_)
theorem foghornref18_Log.mono : ∀ a0 k, LeO (foghornref18_Log.f k a0) (foghornref18_Log.f (k + 1) a0) := by
  intro a0 k
  have ih0 := foghornref18_Log.mono_l k
  unfold foghornref18_Log.f
  repeat' first
      | (with_reducible exact ih0 _ _ _)
      | (with_reducible exact foghornref18_Times.mono _ _ _)
      | (with_reducible exact LeO.refl _)
      | (with_reducible exact LeO.none _)
      | (with_reducible refine LeO.ite ?_ ?_)
      | (with_reducible refine LeO.bind ?_ (fun _ => ?_))
      | exact ih0 _ _ _
      | exact foghornref18_Times.mono _ _ _
      | exact LeO.none _
      | refine LeO.ite ?_ ?_
      | refine LeO.bind ?_ (fun _ => ?_)

/-! ### field_Plus: function 26 -/
def field_Plus.f (a0 : Int) (a1 : Int) : Option (Int) := some (Go.bits .xor .u8 a0 a1)

/-! ### foghornref18_Plus: function 27 -/
def foghornref18_Plus.f (a0 : Int) (a1 : Int) : Option (Int) := some (Go.bits .xor .u8 a0 a1)

/-! ### foghornref18_Exp: function 31 -/
def foghornref18_Exp.f (k : Nat) (a0 : Int) : Option (Int) := (foghornref18_Power.f k 2 a0).bind fun bt194 => (some bt194.1)
theorem foghornref18_Exp.mono : ∀ a0 k, LeO (foghornref18_Exp.f k a0) (foghornref18_Exp.f (k + 1) a0) := by
  intro a0 k
  unfold foghornref18_Exp.f
  repeat' first
      | (with_reducible exact foghornref18_Power.mono _ _ _)
      | (with_reducible exact LeO.refl _)
      | (with_reducible exact LeO.none _)
      | (with_reducible refine LeO.ite ?_ ?_)
      | (with_reducible refine LeO.bind ?_ (fun _ => ?_))
      | exact foghornref18_Power.mono _ _ _
      | exact LeO.none _
      | refine LeO.ite ?_ ?_
      | refine LeO.bind ?_ (fun _ => ?_)

/-! ### foghornref18_Same: function 35 -/
def foghornref18_Same.l0 : Nat → List Int → List Int → Int → Option (Bool)
  | 0, _, _, _ => none
  | k + 1, x0, x1, x5 => if x5 < (x0.length : Int) then (if 0 ≤ x5 then (if x5 < (x1.length : Int) then (if (rd x0 x5) = (rd x1 x5) then (foghornref18_Same.l0 k x0 x1 (wrap64 (x5 + 1))) else (some false)) else (none)) else (none)) else (some true)
def foghornref18_Same.f (k : Nat) (l0 : List Int) (l1 : List Int) : Option (Bool) := if (l0.length : Int) = (l1.length : Int) then (foghornref18_Same.l0 k l0 l1 0) else (some false)
theorem foghornref18_Same.mono_l : ∀ k, (∀ y0 y1 y2, LeO (foghornref18_Same.l0 k y0 y1 y2) (foghornref18_Same.l0 (k + 1) y0 y1 y2))
  | 0 => fun _ _ _ r h => by simp [foghornref18_Same.l0] at h
  | k + 1 => by
    have ih0 := foghornref18_Same.mono_l k
    · intro y0 y1 y2
      unfold foghornref18_Same.l0
      repeat' first
      | (with_reducible exact ih0 _ _ _)
      | (with_reducible exact LeO.refl _)
      | (with_reducible exact LeO.none _)
      | (with_reducible refine LeO.ite ?_ ?_)
      | (with_reducible refine LeO.bind ?_ (fun _ => ?_))
      | exact ih0 _ _ _
      | exact LeO.none _
      | refine LeO.ite ?_ ?_
      | refine LeO.bind ?_ (fun _ => ?_)
theorem foghornref18_Same.mono : ∀ a0 a1 k, LeO (foghornref18_Same.f k a0 a1) (foghornref18_Same.f (k + 1) a0 a1) := by
  intro a0 a1 k
  have ih0 := foghornref18_Same.mono_l k
  unfold foghornref18_Same.f
  repeat' first
      | (with_reducible exact ih0 _ _ _)
      | (with_reducible exact LeO.refl _)
      | (with_reducible exact LeO.none _)
      | (with_reducible refine LeO.ite ?_ ?_)
      | (with_reducible refine LeO.bind ?_ (fun _ => ?_))
      | exact ih0 _ _ _
      | exact LeO.none _
      | refine LeO.ite ?_ ?_
      | refine LeO.bind ?_ (fun _ => ?_)

/-! ### field_long: function 77 -/
def field_long.f (l0 : List (List Int)) : Option (Bool) := some (l0.any fun l => decide ((l.length : Int) > 512))

/-! ### field_Product: function 50 -/
def field_Product.f (k : Nat) (l0 : List Int) (l1 : List Int) : Option (List Int × Int) := (field_long.f (([l0, l1] : List (List Int)))).bind fun t201 => (if t201 = true then (some (([] : List Int), 1)) else ((field_poly.f k l0).bind fun t202 => ((field_poly.f k l1).bind fun t205 => (if (mn (t202.length : Int) (t205.length : Int)) > 0 then (if (wrap64 ((t202.length : Int) + (t205.length : Int))) > 513 then (some (([] : List Int), 1)) else ((field_product.f k t202 t205).bind fun t208 => (some (t208, 0)))) else ((field_product.f k t202 t205).bind fun t211 => (some (t211, 0)))))))
theorem field_Product.mono : ∀ a0 a1 k, LeO (field_Product.f k a0 a1) (field_Product.f (k + 1) a0 a1) := by
  intro a0 a1 k
  unfold field_Product.f
  repeat' first
      | (with_reducible exact field_poly.mono _ _)
      | (with_reducible exact field_product.mono _ _ _)
      | (with_reducible exact LeO.refl _)
      | (with_reducible exact LeO.none _)
      | (with_reducible refine LeO.ite ?_ ?_)
      | (with_reducible refine LeO.bind ?_ (fun _ => ?_))
      | exact field_poly.mono _ _
      | exact field_product.mono _ _ _
      | exact LeO.none _
      | refine LeO.ite ?_ ?_
      | refine LeO.bind ?_ (fun _ => ?_)

/-! ### foghornlaw18_awake: function 32 -/
def foghornlaw18_awake.f (k : Nat)  : Option (Bool) := (field_Product.f k (([1, 1] : List Int)) (([1, 1] : List Int))).bind fun bt220 => ((field_Times.f k 2 128).bind fun t224 => (if t224 = 29 then (if bt220.2 = 0 then ((foghornref18_Same.f k bt220.1 (([1, 0, 1] : List Int))).bind fun t228 => (some t228)) else (some false)) else (some false)))
theorem foghornlaw18_awake.mono : ∀ k, LeO (foghornlaw18_awake.f k ) (foghornlaw18_awake.f (k + 1) ) := by
  intro  k
  unfold foghornlaw18_awake.f
  repeat' first
      | (with_reducible exact field_Product.mono _ _ _)
      | (with_reducible exact field_Times.mono _ _ _)
      | (with_reducible exact foghornref18_Same.mono _ _ _)
      | (with_reducible exact LeO.refl _)
      | (with_reducible exact LeO.none _)
      | (with_reducible refine LeO.ite ?_ ?_)
      | (with_reducible refine LeO.bind ?_ (fun _ => ?_))
      | exact field_Product.mono _ _ _
      | exact field_Times.mono _ _ _
      | exact foghornref18_Same.mono _ _ _
      | exact LeO.none _
      | refine LeO.ite ?_ ?_
      | refine LeO.bind ?_ (fun _ => ?_)

/-! ### foghornlaw18_FieldNumbers: function 4 -/
def foghornlaw18_FieldNumbers.f (k : Nat) (a0 : Int) (a1 : Int) (a2 : Int) : Option (Bool) := (field_Over.f k a0 a1).bind fun bt229 => ((foghornref18_Over.f k a0 a1).bind fun bt231 => ((field_Power.f k a0 a2).bind fun bt233 => ((foghornref18_Power.f k a0 a2).bind fun bt235 => ((field_Log.f k a0).bind fun bt237 => ((foghornref18_Log.f k a0).bind fun bt239 => ((field_Plus.f a0 a1).bind fun t241 => ((foghornref18_Plus.f a0 a1).bind fun t242 => (if t241 = t242 then ((field_Times.f k a0 a1).bind fun t243 => ((foghornref18_Times.f k a0 a1).bind fun t244 => (if t243 = t244 then (if bt229.1 = bt231.1 then (if bt229.2 = bt231.2 then (if bt233.1 = bt235.1 then (if bt233.2 = bt235.2 then (if bt237.1 = bt239.1 then (if bt237.2 = bt239.2 then ((field_Exp.f k a2).bind fun t245 => ((foghornref18_Exp.f k a2).bind fun t246 => (if t245 = t246 then ((foghornlaw18_awake.f k).bind fun t247 => (some t247)) else (some false)))) else (some false)) else (some false)) else (some false)) else (some false)) else (some false)) else (some false)) else (some false)))) else (some false)))))))))
theorem foghornlaw18_FieldNumbers.mono : ∀ a0 a1 a2 k, LeO (foghornlaw18_FieldNumbers.f k a0 a1 a2) (foghornlaw18_FieldNumbers.f (k + 1) a0 a1 a2) := by
  intro a0 a1 a2 k
  unfold foghornlaw18_FieldNumbers.f
  repeat' first
      | (with_reducible exact field_Exp.mono _ _)
      | (with_reducible exact field_Log.mono _ _)
      | (with_reducible exact field_Over.mono _ _ _)
      | (with_reducible exact field_Power.mono _ _ _)
      | (with_reducible exact field_Times.mono _ _ _)
      | (with_reducible exact foghornlaw18_awake.mono _)
      | (with_reducible exact foghornref18_Exp.mono _ _)
      | (with_reducible exact foghornref18_Log.mono _ _)
      | (with_reducible exact foghornref18_Over.mono _ _ _)
      | (with_reducible exact foghornref18_Power.mono _ _ _)
      | (with_reducible exact foghornref18_Times.mono _ _ _)
      | (with_reducible exact LeO.refl _)
      | (with_reducible exact LeO.none _)
      | (with_reducible refine LeO.ite ?_ ?_)
      | (with_reducible refine LeO.bind ?_ (fun _ => ?_))
      | exact field_Exp.mono _ _
      | exact field_Log.mono _ _
      | exact field_Over.mono _ _ _
      | exact field_Power.mono _ _ _
      | exact field_Times.mono _ _ _
      | exact foghornlaw18_awake.mono _
      | exact foghornref18_Exp.mono _ _
      | exact foghornref18_Log.mono _ _
      | exact foghornref18_Over.mono _ _ _
      | exact foghornref18_Power.mono _ _ _
      | exact foghornref18_Times.mono _ _ _
      | exact LeO.none _
      | refine LeO.ite ?_ ?_
      | refine LeO.bind ?_ (fun _ => ?_)
/-- THE ONE PURE STATEMENT of foghornlaw18_FieldNumbers: yours. -/
def foghornlaw18_FieldNumbers.Pure : Prop := ∀ (a0 : Int) (a1 : Int) (a2 : Int), (Lit.int .u8 a0).wf = true → (Lit.int .u8 a1).wf = true → (Lit.int .i64 a2).wf = true → ∃ k, foghornlaw18_FieldNumbers.f k a0 a1 a2 = some true

/-! ### field_at: function 69 -/
def field_at.step (a1 : Int) (s n : Int) : Option Int := (field_Times.f 9 s a1).map fun t => Go.bits .xor .u8 t n
def field_at.f (l0 : List Int) (a1 : Int) : Option (Int) := if 0 ≤ a1 ∧ a1 ≤ 255 then some (l0.foldr (fun n s => (field_at.step a1 s n).getD 0) 0) else none
theorem field_at.times_some (a b : Int) (h0 : 0 ≤ b) (h1 : b ≤ 255) : ∃ r, field_Times.f 9 a b = some r := by
  have key : ∀ (k : Nat) (a b p : Int), 0 ≤ b → b < 2 ^ k → ∃ r, field_Times.l0 (k + 1) a b p = some r := by
    intro k
    induction k with
    | zero => intro a b p h0 h1; refine ⟨p, ?_⟩; rw [field_Times.l0, if_neg (by omega)]
    | succ k ih =>
      intro a b p h0 h1
      by_cases hb : b > 0
      · rw [field_Times.l0, if_pos hb]
        exact ih _ _ _ (by omega) (by rw [Int.pow_succ] at h1; omega)
      · refine ⟨p, ?_⟩; rw [field_Times.l0, if_neg hb]
  exact key 8 a b 0 h0 (by omega)

/-! ### field_sum: function 70 -/
mutual
def field_sum.l0 : Nat → List Int → List Int → Int → Int → Option (List Int)
  | 0, _, _, _, _ => none
  | k + 1, x5, x17, x18, x19 => if x19 < x18 then (if 0 ≤ x19 then (if x19 < (x17.length : Int) then (if x19 < (x5.length : Int) then (field_sum.l0 k (x5.set (x19 : Int).toNat (Go.bits .xor .u8 (rd x5 x19) (rd x17 x19))) x17 x18 (wrap64 (x19 + 1))) else (none)) else (none)) else (none)) else ((field_poly.f k x5).bind fun t297 => (some t297))
def field_sum.l102 : Nat → List Int → List Int → Int → Int → Option (List Int)
  | 0, _, _, _, _ => none
  | k + 1, x5, x17, x18, x19 => if x19 < x18 then (if 0 ≤ x19 then (if x19 < (x17.length : Int) then (if x19 < (x5.length : Int) then (field_sum.l102 k (x5.set (x19 : Int).toNat (Go.bits .xor .u8 (rd x5 x19) (rd x17 x19))) x17 x18 (wrap64 (x19 + 1))) else (none)) else (none)) else (none)) else ((field_poly.f k x5).bind fun t306 => (some t306))
end
def field_sum.f (k : Nat) (l0 : List Int) (l1 : List Int) : Option (List Int) := if (l0.length : Int) < (l1.length : Int) then ((slices_Clone_uint8_uint8.f l1).bind fun t291 => (field_sum.l0 k t291 l0 (l0.length : Int) 0)) else ((slices_Clone_uint8_uint8.f l0).bind fun t300 => (field_sum.l102 k t300 l1 (l1.length : Int) 0))
theorem field_sum.mono_l : ∀ k, (∀ y0 y1 y2 y3, LeO (field_sum.l0 k y0 y1 y2 y3) (field_sum.l0 (k + 1) y0 y1 y2 y3)) ∧ (∀ y0 y1 y2 y3, LeO (field_sum.l102 k y0 y1 y2 y3) (field_sum.l102 (k + 1) y0 y1 y2 y3))
  | 0 => ⟨fun _ _ _ _ r h => by simp [field_sum.l0] at h, fun _ _ _ _ r h => by simp [field_sum.l102] at h⟩
  | k + 1 => by
    obtain ⟨ih0, ih1⟩ := field_sum.mono_l k
    refine ⟨?_, ?_⟩
    · intro y0 y1 y2 y3
      unfold field_sum.l0
      repeat' first
      | (with_reducible exact ih0 _ _ _ _)
      | (with_reducible exact ih1 _ _ _ _)
      | (with_reducible exact field_poly.mono _ _)
      | (with_reducible exact LeO.refl _)
      | (with_reducible exact LeO.none _)
      | (with_reducible refine LeO.ite ?_ ?_)
      | (with_reducible refine LeO.bind ?_ (fun _ => ?_))
      | exact ih0 _ _ _ _
      | exact ih1 _ _ _ _
      | exact field_poly.mono _ _
      | exact LeO.none _
      | refine LeO.ite ?_ ?_
      | refine LeO.bind ?_ (fun _ => ?_)
    · intro y0 y1 y2 y3
      unfold field_sum.l102
      repeat' first
      | (with_reducible exact ih0 _ _ _ _)
      | (with_reducible exact ih1 _ _ _ _)
      | (with_reducible exact field_poly.mono _ _)
      | (with_reducible exact LeO.refl _)
      | (with_reducible exact LeO.none _)
      | (with_reducible refine LeO.ite ?_ ?_)
      | (with_reducible refine LeO.bind ?_ (fun _ => ?_))
      | exact ih0 _ _ _ _
      | exact ih1 _ _ _ _
      | exact field_poly.mono _ _
      | exact LeO.none _
      | refine LeO.ite ?_ ?_
      | refine LeO.bind ?_ (fun _ => ?_)
theorem field_sum.mono : ∀ a0 a1 k, LeO (field_sum.f k a0 a1) (field_sum.f (k + 1) a0 a1) := by
  intro a0 a1 k
  obtain ⟨ih0, ih1⟩ := field_sum.mono_l k
  unfold field_sum.f
  repeat' first
      | (with_reducible exact ih0 _ _ _ _)
      | (with_reducible exact ih1 _ _ _ _)
      | (with_reducible exact field_poly.mono _ _)
      | (with_reducible exact LeO.refl _)
      | (with_reducible exact LeO.none _)
      | (with_reducible refine LeO.ite ?_ ?_)
      | (with_reducible refine LeO.bind ?_ (fun _ => ?_))
      | exact ih0 _ _ _ _
      | exact ih1 _ _ _ _
      | exact field_poly.mono _ _
      | exact LeO.none _
      | refine LeO.ite ?_ ?_
      | refine LeO.bind ?_ (fun _ => ?_)

/-! ### field_Through: function 33 -/
def field_Through.l0 : Nat → List Int → List Int → List Int → List (S45) → Int → Int → Option (List Int × Int)
  | 0, _, _, _, _, _, _ => none
  | k + 1, x4, x5, x6, x14, x15, x16 => if x16 < x15 then (if 0 ≤ x16 then (if x16 < (x14.length : Int) then (if 0 ≤ ((rd_T45 x14 x16).f0) then (if ((rd_T45 x14 x16).f0) < 256 then (if ((rd_T45 x14 x16).f0) < (x4.length : Int) then ((some (x4.set (((rd_T45 x14 x16).f0) : Int).toNat (wrap64 ((rd x4 ((rd_T45 x14 x16).f0)) + 1)) : List Int)).bind fun y318 => (if (rd y318 ((rd_T45 x14 x16).f0)) > 1 then (some (([] : List Int), 1)) else ((field_at.f x5 ((rd_T45 x14 x16).f0)).bind fun t320 => ((field_at.f x6 ((rd_T45 x14 x16).f0)).bind fun t321 => ((field_raised.f k t321 254).bind fun t322 => ((field_Times.f k (Go.bits .xor .u8 t320 ((rd_T45 x14 x16).f1)) t322).bind fun t323 => ((field_product.f k x6 (([t323] : List Int))).bind fun t327 => ((field_sum.f k x5 t327).bind fun t330 => ((field_product.f k x6 (([(rd_T45 x14 x16).f0, 1] : List Int))).bind fun t336 => (field_Through.l0 k y318 t330 t336 x14 x15 (wrap64 (x16 + 1)))))))))))) else (none)) else (none)) else (none)) else (none)) else (none)) else (some (x5, 0))
def field_Through.f (k : Nat) (l0 : List (S45)) : Option (List Int × Int) := if (l0.length : Int) > 256 then (some (([] : List Int), 1)) else (field_Through.l0 k (List.replicate 256 0) ([] : List Int) (([1] : List Int)) l0 (l0.length : Int) 0)
theorem field_Through.mono_l : ∀ k, (∀ y0 y1 y2 y3 y4 y5, LeO (field_Through.l0 k y0 y1 y2 y3 y4 y5) (field_Through.l0 (k + 1) y0 y1 y2 y3 y4 y5))
  | 0 => fun _ _ _ _ _ _ r h => by simp [field_Through.l0] at h
  | k + 1 => by
    have ih0 := field_Through.mono_l k
    · intro y0 y1 y2 y3 y4 y5
      unfold field_Through.l0
      repeat' first
      | (with_reducible exact ih0 _ _ _ _ _ _)
      | (with_reducible exact field_Times.mono _ _ _)
      | (with_reducible exact field_product.mono _ _ _)
      | (with_reducible exact field_raised.mono _ _ _)
      | (with_reducible exact field_sum.mono _ _ _)
      | (with_reducible exact LeO.refl _)
      | (with_reducible exact LeO.none _)
      | (with_reducible refine LeO.ite ?_ ?_)
      | (with_reducible refine LeO.bind ?_ (fun _ => ?_))
      | exact ih0 _ _ _ _ _ _
      | exact field_Times.mono _ _ _
      | exact field_product.mono _ _ _
      | exact field_raised.mono _ _ _
      | exact field_sum.mono _ _ _
      | exact LeO.none _
      | refine LeO.ite ?_ ?_
      | refine LeO.bind ?_ (fun _ => ?_)
theorem field_Through.mono : ∀ a0 k, LeO (field_Through.f k a0) (field_Through.f (k + 1) a0) := by
  intro a0 k
  have ih0 := field_Through.mono_l k
  unfold field_Through.f
  repeat' first
      | (with_reducible exact ih0 _ _ _ _ _ _)
      | (with_reducible exact field_Times.mono _ _ _)
      | (with_reducible exact field_product.mono _ _ _)
      | (with_reducible exact field_raised.mono _ _ _)
      | (with_reducible exact field_sum.mono _ _ _)
      | (with_reducible exact LeO.refl _)
      | (with_reducible exact LeO.none _)
      | (with_reducible refine LeO.ite ?_ ?_)
      | (with_reducible refine LeO.bind ?_ (fun _ => ?_))
      | exact ih0 _ _ _ _ _ _
      | exact field_Times.mono _ _ _
      | exact field_product.mono _ _ _
      | exact field_raised.mono _ _ _
      | exact field_sum.mono _ _ _
      | exact LeO.none _
      | refine LeO.ite ?_ ?_
      | refine LeO.bind ?_ (fun _ => ?_)
def field_Through.T12 : Bool × List (List Nat × List Nat) := (true, [([], []), ([], []), ([1], [1]), ([0, 2], [0, 2]), ([], []), ([4], [4]), ([3, 5], [3, 5]), ([], []), ([], []), ([8], [8]), ([7, 9, 3], [7, 9]), ([10, 10], [10]), ([6, 11, 11], [6, 11]), ([12, 12, 0, 1, 2, 3, 4, 5, 6, 7, 8, 9, 10, 11, 12], [12])])
def field_Through.B12 : List Nat := [0, 0, 2, 7, 0, 16, 63, 0, 0, 256, 911, 1935, 4095, 8191]
theorem field_Through.tab12 : rtab .any (opsOf Try.f33 12) = field_Through.T12 := by kernel_rfl
theorem field_Through.bits12 : waitsOk field_Through.T12.2 field_Through.B12 = true := by kernel_rfl

/-! ### foghornref18_Trim: function 75 -/
def foghornref18_Trim.l0 : Nat → List Int → Int → Option (List Int)
  | 0, _, _ => none
  | k + 1, x0, x3 => if x3 > 0 then (if 0 ≤ (wrap64 (x3 - 1)) then (if (wrap64 (x3 - 1)) < (x0.length : Int) then (if (rd x0 (wrap64 (x3 - 1))) = 0 then (foghornref18_Trim.l0 k x0 (wrap64 (x3 - 1))) else ((some (([] : List Int) : List Int)).bind fun y340 => (if 0 ≤ x3 then (if x3 ≤ (x0.length : Int) then (if y340.length + (x0.take (x3 : Int).toNat).length < 140737488355328 then (some (y340 ++ (x0.take (x3 : Int).toNat))) else (none)) else (none)) else (none)))) else (none)) else (none)) else ((some (([] : List Int) : List Int)).bind fun y347 => (if 0 ≤ x3 then (if x3 ≤ (x0.length : Int) then (if y347.length + (x0.take (x3 : Int).toNat).length < 140737488355328 then (some (y347 ++ (x0.take (x3 : Int).toNat))) else (none)) else (none)) else (none)))
def foghornref18_Trim.f (k : Nat) (l0 : List Int) : Option (List Int) := foghornref18_Trim.l0 k l0 (l0.length : Int)
theorem foghornref18_Trim.mono_l : ∀ k, (∀ y0 y1, LeO (foghornref18_Trim.l0 k y0 y1) (foghornref18_Trim.l0 (k + 1) y0 y1))
  | 0 => fun _ _ r h => by simp [foghornref18_Trim.l0] at h
  | k + 1 => by
    have ih0 := foghornref18_Trim.mono_l k
    · intro y0 y1
      unfold foghornref18_Trim.l0
      repeat' first
      | (with_reducible exact ih0 _ _)
      | (with_reducible exact LeO.refl _)
      | (with_reducible exact LeO.none _)
      | (with_reducible refine LeO.ite ?_ ?_)
      | (with_reducible refine LeO.bind ?_ (fun _ => ?_))
      | exact ih0 _ _
      | exact LeO.none _
      | refine LeO.ite ?_ ?_
      | refine LeO.bind ?_ (fun _ => ?_)
theorem foghornref18_Trim.mono : ∀ a0 k, LeO (foghornref18_Trim.f k a0) (foghornref18_Trim.f (k + 1) a0) := by
  intro a0 k
  have ih0 := foghornref18_Trim.mono_l k
  unfold foghornref18_Trim.f
  repeat' first
      | (with_reducible exact ih0 _ _)
      | (with_reducible exact LeO.refl _)
      | (with_reducible exact LeO.none _)
      | (with_reducible refine LeO.ite ?_ ?_)
      | (with_reducible refine LeO.bind ?_ (fun _ => ?_))
      | exact ih0 _ _
      | exact LeO.none _
      | refine LeO.ite ?_ ?_
      | refine LeO.bind ?_ (fun _ => ?_)

/-! ### foghornref18_product: function 72 -/
mutual
def foghornref18_product.l0 : Nat → List Int → List Int → List Int → Int → Option (List Int)
  | 0, _, _, _, _ => none
  | k + 1, x0, x1, x5, x6 => if x6 < (x0.length : Int) then (foghornref18_product.l1 k x0 x1 x5 x6 0) else ((foghornref18_Trim.f k x5).bind fun t357 => (some t357))
def foghornref18_product.l1 : Nat → List Int → List Int → List Int → Int → Int → Option (List Int)
  | 0, _, _, _, _, _ => none
  | k + 1, x0, x1, x5, x6, x7 => if x7 < (x1.length : Int) then (if 0 ≤ (wrap64 (x6 + x7)) then (if (wrap64 (x6 + x7)) < (x5.length : Int) then (if 0 ≤ x6 then (if x6 < (x0.length : Int) then (if 0 ≤ x7 then ((foghornref18_Times.f k (rd x0 x6) (rd x1 x7)).bind fun t363 => (foghornref18_product.l1 k x0 x1 (x5.set ((wrap64 (x6 + x7)) : Int).toNat (Go.bits .xor .u8 (rd x5 (wrap64 (x6 + x7))) t363)) x6 (wrap64 (x7 + 1)))) else (none)) else (none)) else (none)) else (none)) else (none)) else (foghornref18_product.l0 k x0 x1 x5 (wrap64 (x6 + 1)))
end
def foghornref18_product.f (k : Nat) (l0 : List Int) (l1 : List Int) : Option (List Int) := if 0 ≤ (wrap64 ((l0.length : Int) + (l1.length : Int))) then (if (wrap64 ((l0.length : Int) + (l1.length : Int)) : Int).toNat ≤ 281474976710656 then (foghornref18_product.l0 k l0 l1 (List.replicate (wrap64 ((l0.length : Int) + (l1.length : Int)) : Int).toNat 0) 0) else (none)) else (none)
theorem foghornref18_product.mono_l : ∀ k, (∀ y0 y1 y2 y3, LeO (foghornref18_product.l0 k y0 y1 y2 y3) (foghornref18_product.l0 (k + 1) y0 y1 y2 y3)) ∧ (∀ y0 y1 y2 y3 y4, LeO (foghornref18_product.l1 k y0 y1 y2 y3 y4) (foghornref18_product.l1 (k + 1) y0 y1 y2 y3 y4))
  | 0 => ⟨fun _ _ _ _ r h => by simp [foghornref18_product.l0] at h, fun _ _ _ _ _ r h => by simp [foghornref18_product.l1] at h⟩
  | k + 1 => by
    obtain ⟨ih0, ih1⟩ := foghornref18_product.mono_l k
    refine ⟨?_, ?_⟩
    · intro y0 y1 y2 y3
      unfold foghornref18_product.l0
      repeat' first
      | (with_reducible exact ih0 _ _ _ _)
      | (with_reducible exact ih1 _ _ _ _ _)
      | (with_reducible exact foghornref18_Times.mono _ _ _)
      | (with_reducible exact foghornref18_Trim.mono _ _)
      | (with_reducible exact LeO.refl _)
      | (with_reducible exact LeO.none _)
      | (with_reducible refine LeO.ite ?_ ?_)
      | (with_reducible refine LeO.bind ?_ (fun _ => ?_))
      | exact ih0 _ _ _ _
      | exact ih1 _ _ _ _ _
      | exact foghornref18_Times.mono _ _ _
      | exact foghornref18_Trim.mono _ _
      | exact LeO.none _
      | refine LeO.ite ?_ ?_
      | refine LeO.bind ?_ (fun _ => ?_)
    · intro y0 y1 y2 y3 y4
      unfold foghornref18_product.l1
      repeat' first
      | (with_reducible exact ih0 _ _ _ _)
      | (with_reducible exact ih1 _ _ _ _ _)
      | (with_reducible exact foghornref18_Times.mono _ _ _)
      | (with_reducible exact foghornref18_Trim.mono _ _)
      | (with_reducible exact LeO.refl _)
      | (with_reducible exact LeO.none _)
      | (with_reducible refine LeO.ite ?_ ?_)
      | (with_reducible refine LeO.bind ?_ (fun _ => ?_))
      | exact ih0 _ _ _ _
      | exact ih1 _ _ _ _ _
      | exact foghornref18_Times.mono _ _ _
      | exact foghornref18_Trim.mono _ _
      | exact LeO.none _
      | refine LeO.ite ?_ ?_
      | refine LeO.bind ?_ (fun _ => ?_)
theorem foghornref18_product.mono : ∀ a0 a1 k, LeO (foghornref18_product.f k a0 a1) (foghornref18_product.f (k + 1) a0 a1) := by
  intro a0 a1 k
  obtain ⟨ih0, ih1⟩ := foghornref18_product.mono_l k
  unfold foghornref18_product.f
  repeat' first
      | (with_reducible exact ih0 _ _ _ _)
      | (with_reducible exact ih1 _ _ _ _ _)
      | (with_reducible exact foghornref18_Times.mono _ _ _)
      | (with_reducible exact foghornref18_Trim.mono _ _)
      | (with_reducible exact LeO.refl _)
      | (with_reducible exact LeO.none _)
      | (with_reducible refine LeO.ite ?_ ?_)
      | (with_reducible refine LeO.bind ?_ (fun _ => ?_))
      | exact ih0 _ _ _ _
      | exact ih1 _ _ _ _ _
      | exact foghornref18_Times.mono _ _ _
      | exact foghornref18_Trim.mono _ _
      | exact LeO.none _
      | refine LeO.ite ?_ ?_
      | refine LeO.bind ?_ (fun _ => ?_)
def foghornref18_product.T8 : Bool × List (List Nat × List Nat) := (true, [([], []), ([], []), ([], []), ([1, 2], [1, 2]), ([], []), ([], []), ([], []), ([5, 6], [5, 6]), ([4, 7], [4, 7]), ([8], [8]), ([], []), ([], []), ([10, 11], [10, 11]), ([12], [12]), ([], []), ([], []), ([14, 15], [14, 15]), ([16], [16]), ([13, 17], [13, 17]), ([9, 18], [9, 18]), ([0, 3, 0, 1, 2, 3, 4, 5, 6, 7, 8, 9, 10, 11, 12, 13, 14, 15, 16, 17, 18, 19], [0, 3]), ([20, 19, 18, 0, 1, 2, 3, 4, 5, 6, 7, 8, 9, 10, 11, 12, 13, 14, 15, 16, 17, 18, 19], [19, 20])])
def foghornref18_product.B8 : List Nat := [0, 0, 0, 6, 0, 0, 0, 96, 240, 496, 0, 0, 3072, 7168, 0, 0, 49152, 114688, 261120, 524272, 1048575, 2097151]
theorem foghornref18_product.tab8 : rtab .any (opsOf Try.f72 8) = foghornref18_product.T8 := by kernel_rfl
theorem foghornref18_product.bits8 : waitsOk foghornref18_product.T8.2 foghornref18_product.B8 = true := by kernel_rfl

/-! ### foghornref18_at: function 73 -/
def foghornref18_at.l0 : Nat → List Int → Int → Int → Int → Option (Int)
  | 0, _, _, _, _ => none
  | k + 1, x0, x1, x5, x6 => if x6 ≥ 0 then ((foghornref18_Times.f k x5 x1).bind fun t365 => (if 0 ≤ x6 then (if x6 < (x0.length : Int) then (foghornref18_at.l0 k x0 x1 (Go.bits .xor .u8 t365 (rd x0 x6)) (wrap64 (x6 - 1))) else (none)) else (none))) else (some x5)
def foghornref18_at.f (k : Nat) (l0 : List Int) (a1 : Int) : Option (Int) := foghornref18_at.l0 k l0 a1 0 (wrap64 ((l0.length : Int) - 1))
theorem foghornref18_at.mono_l : ∀ k, (∀ y0 y1 y2 y3, LeO (foghornref18_at.l0 k y0 y1 y2 y3) (foghornref18_at.l0 (k + 1) y0 y1 y2 y3))
  | 0 => fun _ _ _ _ r h => by simp [foghornref18_at.l0] at h
  | k + 1 => by
    have ih0 := foghornref18_at.mono_l k
    · intro y0 y1 y2 y3
      unfold foghornref18_at.l0
      repeat' first
      | (with_reducible exact ih0 _ _ _ _)
      | (with_reducible exact foghornref18_Times.mono _ _ _)
      | (with_reducible exact LeO.refl _)
      | (with_reducible exact LeO.none _)
      | (with_reducible refine LeO.ite ?_ ?_)
      | (with_reducible refine LeO.bind ?_ (fun _ => ?_))
      | exact ih0 _ _ _ _
      | exact foghornref18_Times.mono _ _ _
      | exact LeO.none _
      | refine LeO.ite ?_ ?_
      | refine LeO.bind ?_ (fun _ => ?_)
theorem foghornref18_at.mono : ∀ a0 a1 k, LeO (foghornref18_at.f k a0 a1) (foghornref18_at.f (k + 1) a0 a1) := by
  intro a0 a1 k
  have ih0 := foghornref18_at.mono_l k
  unfold foghornref18_at.f
  repeat' first
      | (with_reducible exact ih0 _ _ _ _)
      | (with_reducible exact foghornref18_Times.mono _ _ _)
      | (with_reducible exact LeO.refl _)
      | (with_reducible exact LeO.none _)
      | (with_reducible refine LeO.ite ?_ ?_)
      | (with_reducible refine LeO.bind ?_ (fun _ => ?_))
      | exact ih0 _ _ _ _
      | exact foghornref18_Times.mono _ _ _
      | exact LeO.none _
      | refine LeO.ite ?_ ?_
      | refine LeO.bind ?_ (fun _ => ?_)

/-! ### foghornref18_may: function 95 -/
def foghornref18_may.f (l0 : List Int) (l1 : List Int) : Option (Bool) := if (l0.length : Int) ≤ 512 then (some (decide ((l1.length : Int) ≤ 512))) else (some false)

/-! ### foghornref18_Sum: function 74 -/
mutual
def foghornref18_Sum.l0 : Nat → List Int → List Int → List Int → Int → Option (List Int × Int)
  | 0, _, _, _, _ => none
  | k + 1, x0, x1, x6, x7 => if x7 < (x0.length : Int) then (if 0 ≤ x7 then (if x7 < (x6.length : Int) then (foghornref18_Sum.l0 k x0 x1 (x6.set (x7 : Int).toNat (rd x0 x7)) (wrap64 (x7 + 1))) else (none)) else (none)) else (foghornref18_Sum.l1 k x1 x6 0)
def foghornref18_Sum.l1 : Nat → List Int → List Int → Int → Option (List Int × Int)
  | 0, _, _, _ => none
  | k + 1, x1, x6, x8 => if x8 < (x1.length : Int) then (if 0 ≤ x8 then (if x8 < (x6.length : Int) then (foghornref18_Sum.l1 k x1 (x6.set (x8 : Int).toNat (Go.bits .xor .u8 (rd x6 x8) (rd x1 x8))) (wrap64 (x8 + 1))) else (none)) else (none)) else ((foghornref18_Trim.f k x6).bind fun t376 => (some (t376, 0)))
end
def foghornref18_Sum.f (k : Nat) (l0 : List Int) (l1 : List Int) : Option (List Int × Int) := (foghornref18_may.f l0 l1).bind fun t367 => (if t367 = true then (if 0 ≤ (mx (l0.length : Int) (l1.length : Int)) then (if (mx (l0.length : Int) (l1.length : Int) : Int).toNat ≤ 281474976710656 then (foghornref18_Sum.l0 k l0 l1 (List.replicate (mx (l0.length : Int) (l1.length : Int) : Int).toNat 0) 0) else (none)) else (none)) else (some (([] : List Int), 1)))
theorem foghornref18_Sum.mono_l : ∀ k, (∀ y0 y1 y2 y3, LeO (foghornref18_Sum.l0 k y0 y1 y2 y3) (foghornref18_Sum.l0 (k + 1) y0 y1 y2 y3)) ∧ (∀ y0 y1 y2, LeO (foghornref18_Sum.l1 k y0 y1 y2) (foghornref18_Sum.l1 (k + 1) y0 y1 y2))
  | 0 => ⟨fun _ _ _ _ r h => by simp [foghornref18_Sum.l0] at h, fun _ _ _ r h => by simp [foghornref18_Sum.l1] at h⟩
  | k + 1 => by
    obtain ⟨ih0, ih1⟩ := foghornref18_Sum.mono_l k
    refine ⟨?_, ?_⟩
    · intro y0 y1 y2 y3
      unfold foghornref18_Sum.l0
      repeat' first
      | (with_reducible exact ih0 _ _ _ _)
      | (with_reducible exact ih1 _ _ _)
      | (with_reducible exact foghornref18_Trim.mono _ _)
      | (with_reducible exact LeO.refl _)
      | (with_reducible exact LeO.none _)
      | (with_reducible refine LeO.ite ?_ ?_)
      | (with_reducible refine LeO.bind ?_ (fun _ => ?_))
      | exact ih0 _ _ _ _
      | exact ih1 _ _ _
      | exact foghornref18_Trim.mono _ _
      | exact LeO.none _
      | refine LeO.ite ?_ ?_
      | refine LeO.bind ?_ (fun _ => ?_)
    · intro y0 y1 y2
      unfold foghornref18_Sum.l1
      repeat' first
      | (with_reducible exact ih0 _ _ _ _)
      | (with_reducible exact ih1 _ _ _)
      | (with_reducible exact foghornref18_Trim.mono _ _)
      | (with_reducible exact LeO.refl _)
      | (with_reducible exact LeO.none _)
      | (with_reducible refine LeO.ite ?_ ?_)
      | (with_reducible refine LeO.bind ?_ (fun _ => ?_))
      | exact ih0 _ _ _ _
      | exact ih1 _ _ _
      | exact foghornref18_Trim.mono _ _
      | exact LeO.none _
      | refine LeO.ite ?_ ?_
      | refine LeO.bind ?_ (fun _ => ?_)
theorem foghornref18_Sum.mono : ∀ a0 a1 k, LeO (foghornref18_Sum.f k a0 a1) (foghornref18_Sum.f (k + 1) a0 a1) := by
  intro a0 a1 k
  obtain ⟨ih0, ih1⟩ := foghornref18_Sum.mono_l k
  unfold foghornref18_Sum.f
  repeat' first
      | (with_reducible exact ih0 _ _ _ _)
      | (with_reducible exact ih1 _ _ _)
      | (with_reducible exact foghornref18_Trim.mono _ _)
      | (with_reducible exact LeO.refl _)
      | (with_reducible exact LeO.none _)
      | (with_reducible refine LeO.ite ?_ ?_)
      | (with_reducible refine LeO.bind ?_ (fun _ => ?_))
      | exact ih0 _ _ _ _
      | exact ih1 _ _ _
      | exact foghornref18_Trim.mono _ _
      | exact LeO.none _
      | refine LeO.ite ?_ ?_
      | refine LeO.bind ?_ (fun _ => ?_)
def foghornref18_Sum.T11 : Bool × List (List Nat × List Nat) := (true, [([], []), ([], []), ([], []), ([], []), ([2, 3], [2, 3]), ([4], [4]), ([], []), ([], []), ([6, 7], [6, 7]), ([8], [8]), ([5, 9], [5, 9]), ([0, 1, 0, 1, 2, 3, 4, 5, 6, 7, 8, 9, 10], [0, 1]), ([11, 10, 0, 1, 2, 3, 4, 5, 6, 7, 8, 9, 10], [10, 11])])
def foghornref18_Sum.B11 : List Nat := [0, 0, 0, 0, 12, 28, 0, 0, 192, 448, 1020, 2047, 4095]
theorem foghornref18_Sum.tab11 : rtab .any (opsOf Try.f74 11) = foghornref18_Sum.T11 := by kernel_rfl
theorem foghornref18_Sum.bits11 : waitsOk foghornref18_Sum.T11.2 foghornref18_Sum.B11 = true := by kernel_rfl

/-! ### field_Sum: function 49 -/
def field_Sum.f (k : Nat) (l0 : List Int) (l1 : List Int) : Option (List Int × Int) := (field_long.f (([l0, l1] : List (List Int)))).bind fun t511 => (if t511 = true then (some (([] : List Int), 1)) else ((field_sum.f k l0 l1).bind fun t512 => (some (t512, 0))))
theorem field_Sum.mono : ∀ a0 a1 k, LeO (field_Sum.f k a0 a1) (field_Sum.f (k + 1) a0 a1) := by
  intro a0 a1 k
  unfold field_Sum.f
  repeat' first
      | (with_reducible exact field_sum.mono _ _ _)
      | (with_reducible exact LeO.refl _)
      | (with_reducible exact LeO.none _)
      | (with_reducible refine LeO.ite ?_ ?_)
      | (with_reducible refine LeO.bind ?_ (fun _ => ?_))
      | exact field_sum.mono _ _ _
      | exact LeO.none _
      | refine LeO.ite ?_ ?_
      | refine LeO.bind ?_ (fun _ => ?_)

/-! ### field_At: function 51 -/
def field_At.f (l0 : List Int) (a1 : Int) : Option (Int × Int) := (field_long.f (([l0] : List (List Int)))).bind fun t518 => (if t518 = true then (some (0, 1)) else ((field_at.f l0 a1).bind fun t519 => (some (t519, 0))))

/-! ### foghornlaw18_degree: function 52 -/
def foghornlaw18_degree.f (l0 : List Int) : Option (Int) := some (wrap64 ((l0.length : Int) - 1))

/-! ### field_divide: function 79 -/
mutual
def field_divide.l0 : Nat → List Int → List Int → List Int → Int → Int → Option (List Int × List Int)
  | 0, _, _, _, _, _ => none
  | k + 1, x1, x4, x5, x6, x7 => if x7 ≥ 0 then (if 0 ≤ (wrap64 ((wrap64 (x7 + (x1.length : Int))) - 1)) then (if (wrap64 ((wrap64 (x7 + (x1.length : Int))) - 1)) < (x5.length : Int) then ((field_Times.f k (rd x5 (wrap64 ((wrap64 (x7 + (x1.length : Int))) - 1))) x6).bind fun t532 => (if 0 ≤ x7 then (if x7 < (x4.length : Int) then (field_divide.l1 k x1 (x4.set (x7 : Int).toNat t532) x5 x6 x7 t532 x1 (x1.length : Int) 0) else (none)) else (none))) else (none)) else (none)) else ((field_poly.f k x5).bind fun t528 => (some (x4, t528)))
def field_divide.l1 : Nat → List Int → List Int → List Int → Int → Int → Int → List Int → Int → Int → Option (List Int × List Int)
  | 0, _, _, _, _, _, _, _, _, _ => none
  | k + 1, x1, x4, x5, x6, x7, x8, x49, x50, x51 => if x51 < x50 then (if 0 ≤ x51 then (if x51 < (x49.length : Int) then (if 0 ≤ (wrap64 (x7 + x51)) then (if (wrap64 (x7 + x51)) < (x5.length : Int) then ((field_Times.f k x8 (rd x49 x51)).bind fun t536 => (field_divide.l1 k x1 x4 (x5.set ((wrap64 (x7 + x51)) : Int).toNat (Go.bits .xor .u8 (rd x5 (wrap64 (x7 + x51))) t536)) x6 x7 x8 x49 x50 (wrap64 (x51 + 1)))) else (none)) else (none)) else (none)) else (none)) else (field_divide.l0 k x1 x4 x5 x6 (wrap64 (x7 - 1)))
end
def field_divide.f (k : Nat) (l0 : List Int) (l1 : List Int) : Option (List Int × List Int) := (field_poly.f k l0).bind fun t520 => (if 0 ≤ (wrap64 ((l1.length : Int) - 1)) then (if (wrap64 ((l1.length : Int) - 1)) < (l1.length : Int) then ((field_raised.f k (rd l1 (wrap64 ((l1.length : Int) - 1))) 254).bind fun t524 => (if 0 ≤ (mx 0 (wrap64 ((wrap64 ((t520.length : Int) - (l1.length : Int))) + 1))) then (if (mx 0 (wrap64 ((wrap64 ((t520.length : Int) - (l1.length : Int))) + 1)) : Int).toNat ≤ 281474976710656 then ((some (List.replicate (mx 0 (wrap64 ((wrap64 ((t520.length : Int) - (l1.length : Int))) + 1)) : Int).toNat 0 : List Int)).bind fun y525 => (field_divide.l0 k l1 y525 t520 t524 (wrap64 ((y525.length : Int) - 1)))) else (none)) else (none))) else (none)) else (none))
theorem field_divide.mono_l : ∀ k, (∀ y0 y1 y2 y3 y4, LeO (field_divide.l0 k y0 y1 y2 y3 y4) (field_divide.l0 (k + 1) y0 y1 y2 y3 y4)) ∧ (∀ y0 y1 y2 y3 y4 y5 y6 y7 y8, LeO (field_divide.l1 k y0 y1 y2 y3 y4 y5 y6 y7 y8) (field_divide.l1 (k + 1) y0 y1 y2 y3 y4 y5 y6 y7 y8))
  | 0 => ⟨fun _ _ _ _ _ r h => by simp [field_divide.l0] at h, fun _ _ _ _ _ _ _ _ _ r h => by simp [field_divide.l1] at h⟩
  | k + 1 => by
    obtain ⟨ih0, ih1⟩ := field_divide.mono_l k
    refine ⟨?_, ?_⟩
    · intro y0 y1 y2 y3 y4
      unfold field_divide.l0
      repeat' first
      | (with_reducible exact ih0 _ _ _ _ _)
      | (with_reducible exact ih1 _ _ _ _ _ _ _ _ _)
      | (with_reducible exact field_Times.mono _ _ _)
      | (with_reducible exact field_poly.mono _ _)
      | (with_reducible exact field_raised.mono _ _ _)
      | (with_reducible exact LeO.refl _)
      | (with_reducible exact LeO.none _)
      | (with_reducible refine LeO.ite ?_ ?_)
      | (with_reducible refine LeO.bind ?_ (fun _ => ?_))
      | exact ih0 _ _ _ _ _
      | exact ih1 _ _ _ _ _ _ _ _ _
      | exact field_Times.mono _ _ _
      | exact field_poly.mono _ _
      | exact field_raised.mono _ _ _
      | exact LeO.none _
      | refine LeO.ite ?_ ?_
      | refine LeO.bind ?_ (fun _ => ?_)
    · intro y0 y1 y2 y3 y4 y5 y6 y7 y8
      unfold field_divide.l1
      repeat' first
      | (with_reducible exact ih0 _ _ _ _ _)
      | (with_reducible exact ih1 _ _ _ _ _ _ _ _ _)
      | (with_reducible exact field_Times.mono _ _ _)
      | (with_reducible exact field_poly.mono _ _)
      | (with_reducible exact field_raised.mono _ _ _)
      | (with_reducible exact LeO.refl _)
      | (with_reducible exact LeO.none _)
      | (with_reducible refine LeO.ite ?_ ?_)
      | (with_reducible refine LeO.bind ?_ (fun _ => ?_))
      | exact ih0 _ _ _ _ _
      | exact ih1 _ _ _ _ _ _ _ _ _
      | exact field_Times.mono _ _ _
      | exact field_poly.mono _ _
      | exact field_raised.mono _ _ _
      | exact LeO.none _
      | refine LeO.ite ?_ ?_
      | refine LeO.bind ?_ (fun _ => ?_)
theorem field_divide.mono : ∀ a0 a1 k, LeO (field_divide.f k a0 a1) (field_divide.f (k + 1) a0 a1) := by
  intro a0 a1 k
  obtain ⟨ih0, ih1⟩ := field_divide.mono_l k
  unfold field_divide.f
  repeat' first
      | (with_reducible exact ih0 _ _ _ _ _)
      | (with_reducible exact ih1 _ _ _ _ _ _ _ _ _)
      | (with_reducible exact field_Times.mono _ _ _)
      | (with_reducible exact field_poly.mono _ _)
      | (with_reducible exact field_raised.mono _ _ _)
      | (with_reducible exact LeO.refl _)
      | (with_reducible exact LeO.none _)
      | (with_reducible refine LeO.ite ?_ ?_)
      | (with_reducible refine LeO.bind ?_ (fun _ => ?_))
      | exact ih0 _ _ _ _ _
      | exact ih1 _ _ _ _ _ _ _ _ _
      | exact field_Times.mono _ _ _
      | exact field_poly.mono _ _
      | exact field_raised.mono _ _ _
      | exact LeO.none _
      | refine LeO.ite ?_ ?_
      | refine LeO.bind ?_ (fun _ => ?_)
def field_divide.T12 : Bool × List (List Nat × List Nat) := (true, [([], []), ([], []), ([], []), ([1, 2], [1, 2]), ([0, 3], [0, 3]), ([4], [4]), ([], []), ([], []), ([6, 7], [6, 7]), ([5, 8], [5, 8]), ([0, 3, 0, 1, 2, 3, 4, 5, 6, 7, 8, 9], [0, 3]), ([10, 9, 8, 0, 1, 2, 3, 4, 5, 6, 7, 8, 9], [9, 10])])
def field_divide.B12 : List Nat := [0, 0, 0, 6, 15, 31, 0, 0, 192, 511, 1023, 2047]
theorem field_divide.tab12 : rtab .any (opsOf Try.f79 12) = field_divide.T12 := by kernel_rfl
theorem field_divide.bits12 : waitsOk field_divide.T12.2 field_divide.B12 = true := by kernel_rfl

/-! ### field_Divide: function 53 -/
def field_Divide.f (k : Nat) (l0 : List Int) (l1 : List Int) : Option (List Int × List Int × Int) := (field_long.f (([l0, l1] : List (List Int)))).bind fun t541 => (if t541 = true then (some (([] : List Int), ([] : List Int), 1)) else ((field_poly.f k l1).bind fun t542 => (if (t542.length : Int) = 0 then (some (([] : List Int), ([] : List Int), 6)) else ((field_divide.f k l0 t542).bind fun bt545 => (some (bt545.1, bt545.2, 0))))))
theorem field_Divide.mono : ∀ a0 a1 k, LeO (field_Divide.f k a0 a1) (field_Divide.f (k + 1) a0 a1) := by
  intro a0 a1 k
  unfold field_Divide.f
  repeat' first
      | (with_reducible exact field_divide.mono _ _ _)
      | (with_reducible exact field_poly.mono _ _)
      | (with_reducible exact LeO.refl _)
      | (with_reducible exact LeO.none _)
      | (with_reducible refine LeO.ite ?_ ?_)
      | (with_reducible refine LeO.bind ?_ (fun _ => ?_))
      | exact field_divide.mono _ _ _
      | exact field_poly.mono _ _
      | exact LeO.none _
      | refine LeO.ite ?_ ?_
      | refine LeO.bind ?_ (fun _ => ?_)

/-! ### foghornlaw18_same: function 54 -/
def foghornlaw18_same.l0 : Nat → List Int → List Int → Int → Option (Bool)
  | 0, _, _, _ => none
  | k + 1, x0, x1, x5 => if x5 < (x0.length : Int) then (if 0 ≤ x5 then (if x5 < (x1.length : Int) then (if (rd x0 x5) = (rd x1 x5) then (foghornlaw18_same.l0 k x0 x1 (wrap64 (x5 + 1))) else (some false)) else (none)) else (none)) else (some true)
def foghornlaw18_same.f (k : Nat) (l0 : List Int) (l1 : List Int) : Option (Bool) := if (l0.length : Int) = (l1.length : Int) then (foghornlaw18_same.l0 k l0 l1 0) else (some false)
theorem foghornlaw18_same.mono_l : ∀ k, (∀ y0 y1 y2, LeO (foghornlaw18_same.l0 k y0 y1 y2) (foghornlaw18_same.l0 (k + 1) y0 y1 y2))
  | 0 => fun _ _ _ r h => by simp [foghornlaw18_same.l0] at h
  | k + 1 => by
    have ih0 := foghornlaw18_same.mono_l k
    · intro y0 y1 y2
      unfold foghornlaw18_same.l0
      repeat' first
      | (with_reducible exact ih0 _ _ _)
      | (with_reducible exact LeO.refl _)
      | (with_reducible exact LeO.none _)
      | (with_reducible refine LeO.ite ?_ ?_)
      | (with_reducible refine LeO.bind ?_ (fun _ => ?_))
      | exact ih0 _ _ _
      | exact LeO.none _
      | refine LeO.ite ?_ ?_
      | refine LeO.bind ?_ (fun _ => ?_)
theorem foghornlaw18_same.mono : ∀ a0 a1 k, LeO (foghornlaw18_same.f k a0 a1) (foghornlaw18_same.f (k + 1) a0 a1) := by
  intro a0 a1 k
  have ih0 := foghornlaw18_same.mono_l k
  unfold foghornlaw18_same.f
  repeat' first
      | (with_reducible exact ih0 _ _ _)
      | (with_reducible exact LeO.refl _)
      | (with_reducible exact LeO.none _)
      | (with_reducible refine LeO.ite ?_ ?_)
      | (with_reducible refine LeO.bind ?_ (fun _ => ?_))
      | exact ih0 _ _ _
      | exact LeO.none _
      | refine LeO.ite ?_ ?_
      | refine LeO.bind ?_ (fun _ => ?_)

/-! ### field_Gcd: function 55 -/
def field_Gcd.l0 : Nat → List Int → List Int → Option (List Int × Int)
  | 0, _, _ => none
  | k + 1, x0, x1 => if (x1.length : Int) > 0 then ((field_divide.f k x0 x1).bind fun bt563 => (field_Gcd.l0 k x1 bt563.2)) else (if (x0.length : Int) = 0 then (some (([] : List Int), 0)) else (if 0 ≤ (wrap64 ((x0.length : Int) - 1)) then (if (wrap64 ((x0.length : Int) - 1)) < (x0.length : Int) then ((field_raised.f k (rd x0 (wrap64 ((x0.length : Int) - 1))) 254).bind fun t570 => ((field_product.f k x0 (([t570] : List Int))).bind fun t574 => (some (t574, 0)))) else (none)) else (none)))
def field_Gcd.f (k : Nat) (l0 : List Int) (l1 : List Int) : Option (List Int × Int) := (field_long.f (([l0, l1] : List (List Int)))).bind fun t556 => (if t556 = true then (some (([] : List Int), 1)) else ((field_poly.f k l0).bind fun t557 => ((field_poly.f k l1).bind fun t560 => (field_Gcd.l0 k t557 t560))))
theorem field_Gcd.mono_l : ∀ k, (∀ y0 y1, LeO (field_Gcd.l0 k y0 y1) (field_Gcd.l0 (k + 1) y0 y1))
  | 0 => fun _ _ r h => by simp [field_Gcd.l0] at h
  | k + 1 => by
    have ih0 := field_Gcd.mono_l k
    · intro y0 y1
      unfold field_Gcd.l0
      repeat' first
      | (with_reducible exact ih0 _ _)
      | (with_reducible exact field_divide.mono _ _ _)
      | (with_reducible exact field_poly.mono _ _)
      | (with_reducible exact field_product.mono _ _ _)
      | (with_reducible exact field_raised.mono _ _ _)
      | (with_reducible exact LeO.refl _)
      | (with_reducible exact LeO.none _)
      | (with_reducible refine LeO.ite ?_ ?_)
      | (with_reducible refine LeO.bind ?_ (fun _ => ?_))
      | exact ih0 _ _
      | exact field_divide.mono _ _ _
      | exact field_poly.mono _ _
      | exact field_product.mono _ _ _
      | exact field_raised.mono _ _ _
      | exact LeO.none _
      | refine LeO.ite ?_ ?_
      | refine LeO.bind ?_ (fun _ => ?_)
theorem field_Gcd.mono : ∀ a0 a1 k, LeO (field_Gcd.f k a0 a1) (field_Gcd.f (k + 1) a0 a1) := by
  intro a0 a1 k
  have ih0 := field_Gcd.mono_l k
  unfold field_Gcd.f
  repeat' first
      | (with_reducible exact ih0 _ _)
      | (with_reducible exact field_divide.mono _ _ _)
      | (with_reducible exact field_poly.mono _ _)
      | (with_reducible exact field_product.mono _ _ _)
      | (with_reducible exact field_raised.mono _ _ _)
      | (with_reducible exact LeO.refl _)
      | (with_reducible exact LeO.none _)
      | (with_reducible refine LeO.ite ?_ ?_)
      | (with_reducible refine LeO.bind ?_ (fun _ => ?_))
      | exact ih0 _ _
      | exact field_divide.mono _ _ _
      | exact field_poly.mono _ _
      | exact field_product.mono _ _ _
      | exact field_raised.mono _ _ _
      | exact LeO.none _
      | refine LeO.ite ?_ ?_
      | refine LeO.bind ?_ (fun _ => ?_)

/-! ### foghornlaw18_divides: function 56 -/
def foghornlaw18_divides.f (k : Nat) (l0 : List Int) (l1 : List Int) : Option (Bool) := (field_Divide.f k l1 l0).bind fun bt577 => (if bt577.2.2 = 6 then ((field_Sum.f k l1 ([] : List Int)).bind fun bt584 => (if bt584.2 = 0 then (some ((bt584.1.length : Int) == 0)) else (some false))) else (if bt577.2.2 = 0 then (some ((bt577.2.1.length : Int) == 0)) else (some false)))
theorem foghornlaw18_divides.mono : ∀ a0 a1 k, LeO (foghornlaw18_divides.f k a0 a1) (foghornlaw18_divides.f (k + 1) a0 a1) := by
  intro a0 a1 k
  unfold foghornlaw18_divides.f
  repeat' first
      | (with_reducible exact field_Divide.mono _ _ _)
      | (with_reducible exact field_Sum.mono _ _ _)
      | (with_reducible exact LeO.refl _)
      | (with_reducible exact LeO.none _)
      | (with_reducible refine LeO.ite ?_ ?_)
      | (with_reducible refine LeO.bind ?_ (fun _ => ?_))
      | exact field_Divide.mono _ _ _
      | exact field_Sum.mono _ _ _
      | exact LeO.none _
      | refine LeO.ite ?_ ?_
      | refine LeO.bind ?_ (fun _ => ?_)

/-! ### foghornlaw18_FieldRings: function 11 -/
mutual
def foghornlaw18_FieldRings.j0 : Nat → Int → List Int → List Int → List Int → List Int → List Int → List Int → List Int → Bool → Option (Bool)
  | 0, _, _, _, _, _, _, _, _, _ => none
  | k + 1, x3, x4, x5, x6, x7, x9, x11, x13, x94 => if x94 = true then (some false) else ((field_At.f x4 x3).bind fun bt608 => ((field_At.f x5 x3).bind fun bt610 => ((field_At.f x7 x3).bind fun bt612 => ((field_At.f x9 x3).bind fun bt614 => (if bt612.2 = 0 then (if bt614.2 = 0 then ((field_Plus.f bt608.1 bt610.1).bind fun t616 => (if bt612.1 = t616 then ((field_Times.f k bt608.1 bt610.1).bind fun t617 => (if bt614.1 = t617 then (if (x11.length : Int) > 0 then (if (x13.length : Int) > 0 then ((foghornlaw18_degree.f x9).bind fun t618 => ((foghornlaw18_degree.f x11).bind fun t619 => ((foghornlaw18_degree.f x13).bind fun t620 => (if t618 = (wrap64 (t619 + t620)) then (if (x11.length : Int) = 0 then (foghornlaw18_FieldRings.j1 k x4 x5 x6 x11 x13 ((x9.length : Int) != 0)) else (if (x13.length : Int) = 0 then (foghornlaw18_FieldRings.j1 k x4 x5 x6 x11 x13 ((x9.length : Int) != 0)) else (foghornlaw18_FieldRings.j1 k x4 x5 x6 x11 x13 false))) else (foghornlaw18_FieldRings.j1 k x4 x5 x6 x11 x13 true))))) else (if (x11.length : Int) = 0 then (foghornlaw18_FieldRings.j1 k x4 x5 x6 x11 x13 ((x9.length : Int) != 0)) else (if (x13.length : Int) = 0 then (foghornlaw18_FieldRings.j1 k x4 x5 x6 x11 x13 ((x9.length : Int) != 0)) else (foghornlaw18_FieldRings.j1 k x4 x5 x6 x11 x13 false)))) else (if (x11.length : Int) = 0 then (foghornlaw18_FieldRings.j1 k x4 x5 x6 x11 x13 ((x9.length : Int) != 0)) else (if (x13.length : Int) = 0 then (foghornlaw18_FieldRings.j1 k x4 x5 x6 x11 x13 ((x9.length : Int) != 0)) else (foghornlaw18_FieldRings.j1 k x4 x5 x6 x11 x13 false)))) else (foghornlaw18_FieldRings.j1 k x4 x5 x6 x11 x13 true))) else (foghornlaw18_FieldRings.j1 k x4 x5 x6 x11 x13 true))) else (foghornlaw18_FieldRings.j1 k x4 x5 x6 x11 x13 true)) else (foghornlaw18_FieldRings.j1 k x4 x5 x6 x11 x13 true))))))
def foghornlaw18_FieldRings.j1 : Nat → List Int → List Int → List Int → List Int → List Int → Bool → Option (Bool)
  | 0, _, _, _, _, _, _ => none
  | k + 1, x4, x5, x6, x11, x13, x173 => if x173 = true then (some false) else ((field_Divide.f k x4 x5).bind fun bt621 => (if (x13.length : Int) = 0 then (if bt621.2.2 = 6 then ((foghornlaw18_awake.f k).bind fun t628 => (some t628)) else (some false)) else ((field_Product.f k bt621.1 x5).bind fun bt629 => ((field_Sum.f k bt629.1 bt621.2.1).bind fun bt633 => (if bt621.2.2 = 0 then (if bt629.2 = 0 then (if bt633.2 = 0 then (if (bt621.2.1.length : Int) ≥ (x13.length : Int) then (foghornlaw18_FieldRings.j2 k x4 x5 x6 true) else ((foghornlaw18_same.f k bt633.1 x11).bind fun t637 => (foghornlaw18_FieldRings.j2 k x4 x5 x6 (!t637)))) else (foghornlaw18_FieldRings.j2 k x4 x5 x6 true)) else (foghornlaw18_FieldRings.j2 k x4 x5 x6 true)) else (foghornlaw18_FieldRings.j2 k x4 x5 x6 true))))))
def foghornlaw18_FieldRings.j2 : Nat → List Int → List Int → List Int → Bool → Option (Bool)
  | 0, _, _, _, _ => none
  | k + 1, x4, x5, x6, x223 => if x223 = true then (some false) else ((field_Product.f k x4 x6).bind fun bt638 => ((field_Product.f k x5 x6).bind fun bt642 => ((field_Gcd.f k bt638.1 bt642.1).bind fun bt646 => (if bt638.2 = 0 then (if bt642.2 = 0 then (if bt646.2 = 0 then ((foghornlaw18_divides.f k bt646.1 bt638.1).bind fun t650 => (if t650 = true then ((foghornlaw18_divides.f k bt646.1 bt642.1).bind fun t651 => (if t651 = true then ((foghornlaw18_divides.f k x6 bt646.1).bind fun t652 => (if t652 = true then ((foghornlaw18_awake.f k).bind fun t653 => (some t653)) else (some false))) else (some false))) else (some false))) else (some false)) else (some false)) else (some false)))))
end
def foghornlaw18_FieldRings.f (k : Nat) (l0_0 : List Int) (l0_1 : List Int) (l0_2 : List Int) (a0_3 : Int) : Option (Bool) := if 0 ≤ (mn (l0_0.length : Int) 40) then (if (mn (l0_0.length : Int) 40) ≤ (l0_0.length : Int) then (if 0 ≤ (mn (l0_1.length : Int) 40) then (if (mn (l0_1.length : Int) 40) ≤ (l0_1.length : Int) then (if 0 ≤ (mn (l0_2.length : Int) 10) then (if (mn (l0_2.length : Int) 10) ≤ (l0_2.length : Int) then ((field_Sum.f k (l0_0.take ((mn (l0_0.length : Int) 40) : Int).toNat) (l0_1.take ((mn (l0_1.length : Int) 40) : Int).toNat)).bind fun bt592 => ((field_Product.f k (l0_0.take ((mn (l0_0.length : Int) 40) : Int).toNat) (l0_1.take ((mn (l0_1.length : Int) 40) : Int).toNat)).bind fun bt596 => ((field_Sum.f k (l0_0.take ((mn (l0_0.length : Int) 40) : Int).toNat) ([] : List Int)).bind fun bt600 => ((field_Sum.f k (l0_1.take ((mn (l0_1.length : Int) 40) : Int).toNat) ([] : List Int)).bind fun bt604 => (if bt592.2 = 0 then (if bt596.2 = 0 then (if bt600.2 = 0 then (foghornlaw18_FieldRings.j0 k a0_3 (l0_0.take ((mn (l0_0.length : Int) 40) : Int).toNat) (l0_1.take ((mn (l0_1.length : Int) 40) : Int).toNat) (l0_2.take ((mn (l0_2.length : Int) 10) : Int).toNat) bt592.1 bt596.1 bt600.1 bt604.1 (bt604.2 != 0)) else (foghornlaw18_FieldRings.j0 k a0_3 (l0_0.take ((mn (l0_0.length : Int) 40) : Int).toNat) (l0_1.take ((mn (l0_1.length : Int) 40) : Int).toNat) (l0_2.take ((mn (l0_2.length : Int) 10) : Int).toNat) bt592.1 bt596.1 bt600.1 bt604.1 true)) else (foghornlaw18_FieldRings.j0 k a0_3 (l0_0.take ((mn (l0_0.length : Int) 40) : Int).toNat) (l0_1.take ((mn (l0_1.length : Int) 40) : Int).toNat) (l0_2.take ((mn (l0_2.length : Int) 10) : Int).toNat) bt592.1 bt596.1 bt600.1 bt604.1 true)) else (foghornlaw18_FieldRings.j0 k a0_3 (l0_0.take ((mn (l0_0.length : Int) 40) : Int).toNat) (l0_1.take ((mn (l0_1.length : Int) 40) : Int).toNat) (l0_2.take ((mn (l0_2.length : Int) 10) : Int).toNat) bt592.1 bt596.1 bt600.1 bt604.1 true)))))) else (none)) else (none)) else (none)) else (none)) else (none)) else (none)
theorem foghornlaw18_FieldRings.mono_l : ∀ k, (∀ y0 y1 y2 y3 y4 y5 y6 y7 y8, LeO (foghornlaw18_FieldRings.j0 k y0 y1 y2 y3 y4 y5 y6 y7 y8) (foghornlaw18_FieldRings.j0 (k + 1) y0 y1 y2 y3 y4 y5 y6 y7 y8)) ∧ (∀ y0 y1 y2 y3 y4 y5, LeO (foghornlaw18_FieldRings.j1 k y0 y1 y2 y3 y4 y5) (foghornlaw18_FieldRings.j1 (k + 1) y0 y1 y2 y3 y4 y5)) ∧ (∀ y0 y1 y2 y3, LeO (foghornlaw18_FieldRings.j2 k y0 y1 y2 y3) (foghornlaw18_FieldRings.j2 (k + 1) y0 y1 y2 y3))
  | 0 => ⟨fun _ _ _ _ _ _ _ _ _ r h => by simp [foghornlaw18_FieldRings.j0] at h, fun _ _ _ _ _ _ r h => by simp [foghornlaw18_FieldRings.j1] at h, fun _ _ _ _ r h => by simp [foghornlaw18_FieldRings.j2] at h⟩
  | k + 1 => by
    obtain ⟨ih0, ih1, ih2⟩ := foghornlaw18_FieldRings.mono_l k
    refine ⟨?_, ?_, ?_⟩
    · intro y0 y1 y2 y3 y4 y5 y6 y7 y8
      unfold foghornlaw18_FieldRings.j0
      repeat' first
      | (with_reducible exact ih0 _ _ _ _ _ _ _ _ _)
      | (with_reducible exact ih1 _ _ _ _ _ _)
      | (with_reducible exact ih2 _ _ _ _)
      | (with_reducible exact field_Divide.mono _ _ _)
      | (with_reducible exact field_Gcd.mono _ _ _)
      | (with_reducible exact field_Product.mono _ _ _)
      | (with_reducible exact field_Sum.mono _ _ _)
      | (with_reducible exact field_Times.mono _ _ _)
      | (with_reducible exact foghornlaw18_awake.mono _)
      | (with_reducible exact foghornlaw18_divides.mono _ _ _)
      | (with_reducible exact foghornlaw18_same.mono _ _ _)
      | (with_reducible exact LeO.refl _)
      | (with_reducible exact LeO.none _)
      | (with_reducible refine LeO.ite ?_ ?_)
      | (with_reducible refine LeO.bind ?_ (fun _ => ?_))
      | exact ih0 _ _ _ _ _ _ _ _ _
      | exact ih1 _ _ _ _ _ _
      | exact ih2 _ _ _ _
      | exact field_Divide.mono _ _ _
      | exact field_Gcd.mono _ _ _
      | exact field_Product.mono _ _ _
      | exact field_Sum.mono _ _ _
      | exact field_Times.mono _ _ _
      | exact foghornlaw18_awake.mono _
      | exact foghornlaw18_divides.mono _ _ _
      | exact foghornlaw18_same.mono _ _ _
      | exact LeO.none _
      | refine LeO.ite ?_ ?_
      | refine LeO.bind ?_ (fun _ => ?_)
    · intro y0 y1 y2 y3 y4 y5
      unfold foghornlaw18_FieldRings.j1
      repeat' first
      | (with_reducible exact ih0 _ _ _ _ _ _ _ _ _)
      | (with_reducible exact ih1 _ _ _ _ _ _)
      | (with_reducible exact ih2 _ _ _ _)
      | (with_reducible exact field_Divide.mono _ _ _)
      | (with_reducible exact field_Gcd.mono _ _ _)
      | (with_reducible exact field_Product.mono _ _ _)
      | (with_reducible exact field_Sum.mono _ _ _)
      | (with_reducible exact field_Times.mono _ _ _)
      | (with_reducible exact foghornlaw18_awake.mono _)
      | (with_reducible exact foghornlaw18_divides.mono _ _ _)
      | (with_reducible exact foghornlaw18_same.mono _ _ _)
      | (with_reducible exact LeO.refl _)
      | (with_reducible exact LeO.none _)
      | (with_reducible refine LeO.ite ?_ ?_)
      | (with_reducible refine LeO.bind ?_ (fun _ => ?_))
      | exact ih0 _ _ _ _ _ _ _ _ _
      | exact ih1 _ _ _ _ _ _
      | exact ih2 _ _ _ _
      | exact field_Divide.mono _ _ _
      | exact field_Gcd.mono _ _ _
      | exact field_Product.mono _ _ _
      | exact field_Sum.mono _ _ _
      | exact field_Times.mono _ _ _
      | exact foghornlaw18_awake.mono _
      | exact foghornlaw18_divides.mono _ _ _
      | exact foghornlaw18_same.mono _ _ _
      | exact LeO.none _
      | refine LeO.ite ?_ ?_
      | refine LeO.bind ?_ (fun _ => ?_)
    · intro y0 y1 y2 y3
      unfold foghornlaw18_FieldRings.j2
      repeat' first
      | (with_reducible exact ih0 _ _ _ _ _ _ _ _ _)
      | (with_reducible exact ih1 _ _ _ _ _ _)
      | (with_reducible exact ih2 _ _ _ _)
      | (with_reducible exact field_Divide.mono _ _ _)
      | (with_reducible exact field_Gcd.mono _ _ _)
      | (with_reducible exact field_Product.mono _ _ _)
      | (with_reducible exact field_Sum.mono _ _ _)
      | (with_reducible exact field_Times.mono _ _ _)
      | (with_reducible exact foghornlaw18_awake.mono _)
      | (with_reducible exact foghornlaw18_divides.mono _ _ _)
      | (with_reducible exact foghornlaw18_same.mono _ _ _)
      | (with_reducible exact LeO.refl _)
      | (with_reducible exact LeO.none _)
      | (with_reducible refine LeO.ite ?_ ?_)
      | (with_reducible refine LeO.bind ?_ (fun _ => ?_))
      | exact ih0 _ _ _ _ _ _ _ _ _
      | exact ih1 _ _ _ _ _ _
      | exact ih2 _ _ _ _
      | exact field_Divide.mono _ _ _
      | exact field_Gcd.mono _ _ _
      | exact field_Product.mono _ _ _
      | exact field_Sum.mono _ _ _
      | exact field_Times.mono _ _ _
      | exact foghornlaw18_awake.mono _
      | exact foghornlaw18_divides.mono _ _ _
      | exact foghornlaw18_same.mono _ _ _
      | exact LeO.none _
      | refine LeO.ite ?_ ?_
      | refine LeO.bind ?_ (fun _ => ?_)
theorem foghornlaw18_FieldRings.mono : ∀ a0 a1 a2 a3 k, LeO (foghornlaw18_FieldRings.f k a0 a1 a2 a3) (foghornlaw18_FieldRings.f (k + 1) a0 a1 a2 a3) := by
  intro a0 a1 a2 a3 k
  obtain ⟨ih0, ih1, ih2⟩ := foghornlaw18_FieldRings.mono_l k
  unfold foghornlaw18_FieldRings.f
  repeat' first
      | (with_reducible exact ih0 _ _ _ _ _ _ _ _ _)
      | (with_reducible exact ih1 _ _ _ _ _ _)
      | (with_reducible exact ih2 _ _ _ _)
      | (with_reducible exact field_Divide.mono _ _ _)
      | (with_reducible exact field_Gcd.mono _ _ _)
      | (with_reducible exact field_Product.mono _ _ _)
      | (with_reducible exact field_Sum.mono _ _ _)
      | (with_reducible exact field_Times.mono _ _ _)
      | (with_reducible exact foghornlaw18_awake.mono _)
      | (with_reducible exact foghornlaw18_divides.mono _ _ _)
      | (with_reducible exact foghornlaw18_same.mono _ _ _)
      | (with_reducible exact LeO.refl _)
      | (with_reducible exact LeO.none _)
      | (with_reducible refine LeO.ite ?_ ?_)
      | (with_reducible refine LeO.bind ?_ (fun _ => ?_))
      | exact ih0 _ _ _ _ _ _ _ _ _
      | exact ih1 _ _ _ _ _ _
      | exact ih2 _ _ _ _
      | exact field_Divide.mono _ _ _
      | exact field_Gcd.mono _ _ _
      | exact field_Product.mono _ _ _
      | exact field_Sum.mono _ _ _
      | exact field_Times.mono _ _ _
      | exact foghornlaw18_awake.mono _
      | exact foghornlaw18_divides.mono _ _ _
      | exact foghornlaw18_same.mono _ _ _
      | exact LeO.none _
      | refine LeO.ite ?_ ?_
      | refine LeO.bind ?_ (fun _ => ?_)
/-- THE ONE PURE STATEMENT of foghornlaw18_FieldRings: ours. -/
def foghornlaw18_FieldRings.Pure : Prop := ∀ (l0_0 : List Int) (l0_1 : List Int) (l0_2 : List Int) (a0_3 : Int), (l0_0.length ≤ maxLen ∧ ∀ x ∈ l0_0, (fun y_ : Int => (Lit.int .u8 y_).wf = true) x) → (l0_1.length ≤ maxLen ∧ ∀ x ∈ l0_1, (fun y_ : Int => (Lit.int .u8 y_).wf = true) x) → (l0_2.length ≤ maxLen ∧ ∀ x ∈ l0_2, (fun y_ : Int => (Lit.int .u8 y_).wf = true) x) → ((Lit.int .u8 a0_3).wf = true) → ∃ k, foghornlaw18_FieldRings.f k l0_0 l0_1 l0_2 a0_3 = some true

/-! ### field_Roots: function 58 -/
def field_Roots.l0 : Nat → List Int → List Int → Int → Option (List Int × Int)
  | 0, _, _, _ => none
  | k + 1, x0, x4, x13 => if x13 < 256 then ((field_at.f x0 ((x13) % 256)).bind fun t661 => (if t661 = 0 then (if x4.length < 140737488355328 then (field_Roots.l0 k x0 (x4 ++ [(x13) % 256]) (wrap64 (x13 + 1))) else (none)) else (field_Roots.l0 k x0 x4 (wrap64 (x13 + 1))))) else (some (x4, 0))
def field_Roots.f (k : Nat) (l0 : List Int) : Option (List Int × Int) := (field_long.f (([l0] : List (List Int)))).bind fun t657 => (if t657 = true then (some (([] : List Int), 1)) else ((field_poly.f k l0).bind fun t658 => (if (t658.length : Int) = 0 then (some (([] : List Int), 6)) else (field_Roots.l0 k l0 ([] : List Int) 0))))
theorem field_Roots.mono_l : ∀ k, (∀ y0 y1 y2, LeO (field_Roots.l0 k y0 y1 y2) (field_Roots.l0 (k + 1) y0 y1 y2))
  | 0 => fun _ _ _ r h => by simp [field_Roots.l0] at h
  | k + 1 => by
    have ih0 := field_Roots.mono_l k
    · intro y0 y1 y2
      unfold field_Roots.l0
      repeat' first
      | (with_reducible exact ih0 _ _ _)
      | (with_reducible exact field_poly.mono _ _)
      | (with_reducible exact LeO.refl _)
      | (with_reducible exact LeO.none _)
      | (with_reducible refine LeO.ite ?_ ?_)
      | (with_reducible refine LeO.bind ?_ (fun _ => ?_))
      | exact ih0 _ _ _
      | exact field_poly.mono _ _
      | exact LeO.none _
      | refine LeO.ite ?_ ?_
      | refine LeO.bind ?_ (fun _ => ?_)
theorem field_Roots.mono : ∀ a0 k, LeO (field_Roots.f k a0) (field_Roots.f (k + 1) a0) := by
  intro a0 k
  have ih0 := field_Roots.mono_l k
  unfold field_Roots.f
  repeat' first
      | (with_reducible exact ih0 _ _ _)
      | (with_reducible exact field_poly.mono _ _)
      | (with_reducible exact LeO.refl _)
      | (with_reducible exact LeO.none _)
      | (with_reducible refine LeO.ite ?_ ?_)
      | (with_reducible refine LeO.bind ?_ (fun _ => ?_))
      | exact ih0 _ _ _
      | exact field_poly.mono _ _
      | exact LeO.none _
      | refine LeO.ite ?_ ?_
      | refine LeO.bind ?_ (fun _ => ?_)

/-! ### field_Slope: function 59 -/
def field_Slope.l0 : Nat → List Int → Int → Int → Option (List Int × Int)
  | 0, _, _, _ => none
  | k + 1, x4, x16, x17 => if x17 < x16 then (if (Go.bits .and .i64 x17 1) > 0 then (if 0 ≤ x17 then (if x17 < (x4.length : Int) then (field_Slope.l0 k (x4.set (x17 : Int).toNat 0) x16 (wrap64 (x17 + 1))) else (none)) else (none)) else (field_Slope.l0 k x4 x16 (wrap64 (x17 + 1)))) else ((field_poly.f k x4).bind fun t678 => (some (t678, 0)))
def field_Slope.f (k : Nat) (l0 : List Int) : Option (List Int × Int) := (field_long.f (([l0] : List (List Int)))).bind fun t668 => (if t668 = true then (some (([] : List Int), 1)) else (if 0 ≤ (mn 1 (l0.length : Int)) then (if (mn 1 (l0.length : Int)) ≤ (l0.length : Int) then ((slices_Clone_uint8_uint8.f (l0.drop ((mn 1 (l0.length : Int)) : Int).toNat)).bind fun t674 => (field_Slope.l0 k t674 (t674.length : Int) 0)) else (none)) else (none)))
theorem field_Slope.mono_l : ∀ k, (∀ y0 y1 y2, LeO (field_Slope.l0 k y0 y1 y2) (field_Slope.l0 (k + 1) y0 y1 y2))
  | 0 => fun _ _ _ r h => by simp [field_Slope.l0] at h
  | k + 1 => by
    have ih0 := field_Slope.mono_l k
    · intro y0 y1 y2
      unfold field_Slope.l0
      repeat' first
      | (with_reducible exact ih0 _ _ _)
      | (with_reducible exact field_poly.mono _ _)
      | (with_reducible exact LeO.refl _)
      | (with_reducible exact LeO.none _)
      | (with_reducible refine LeO.ite ?_ ?_)
      | (with_reducible refine LeO.bind ?_ (fun _ => ?_))
      | exact ih0 _ _ _
      | exact field_poly.mono _ _
      | exact LeO.none _
      | refine LeO.ite ?_ ?_
      | refine LeO.bind ?_ (fun _ => ?_)
theorem field_Slope.mono : ∀ a0 k, LeO (field_Slope.f k a0) (field_Slope.f (k + 1) a0) := by
  intro a0 k
  have ih0 := field_Slope.mono_l k
  unfold field_Slope.f
  repeat' first
      | (with_reducible exact ih0 _ _ _)
      | (with_reducible exact field_poly.mono _ _)
      | (with_reducible exact LeO.refl _)
      | (with_reducible exact LeO.none _)
      | (with_reducible refine LeO.ite ?_ ?_)
      | (with_reducible refine LeO.bind ?_ (fun _ => ?_))
      | exact ih0 _ _ _
      | exact field_poly.mono _ _
      | exact LeO.none _
      | refine LeO.ite ?_ ?_
      | refine LeO.bind ?_ (fun _ => ?_)

/-! ### foghornlaw18_FieldRoots: function 12 -/
mutual
def foghornlaw18_FieldRoots.j0 : Nat → List Int → Int → List Int → List Int → List Int → Bool → Option (Bool)
  | 0, _, _, _, _, _, _ => none
  | k + 1, x1, x2, x7, x10, x12, x75 => if x75 = true then (some false) else (foghornlaw18_FieldRoots.l0 k x1 x2 x7 x10 x12 (List.replicate 256 0) 0)
def foghornlaw18_FieldRoots.l0 : Nat → List Int → Int → List Int → List Int → List Int → List Int → Int → Option (Bool)
  | 0, _, _, _, _, _, _, _ => none
  | k + 1, x1, x2, x7, x10, x12, x14, x15 => if x15 < (x7.length : Int) then (if 0 ≤ x15 then (if 0 ≤ (rd x7 x15) then (if (rd x7 x15) < 256 then (if (rd x7 x15) < (x14.length : Int) then (foghornlaw18_FieldRoots.l0 k x1 x2 x7 x10 x12 (x14.set ((rd x7 x15) : Int).toNat (wrap64 ((rd x14 (rd x7 x15)) + 1))) (wrap64 (x15 + 1))) else (none)) else (none)) else (none)) else (none)) else (foghornlaw18_FieldRoots.l1 k x1 x2 x10 x12 x14 0 0)
def foghornlaw18_FieldRoots.l1 : Nat → List Int → Int → List Int → List Int → List Int → Int → Int → Option (Bool)
  | 0, _, _, _, _, _, _, _ => none
  | k + 1, x1, x2, x10, x12, x14, x16, x17 => if x17 < 256 then (if x16 < (x10.length : Int) then (if 0 ≤ x16 then (foghornlaw18_FieldRoots.j3 k x1 x2 x10 x12 x14 x16 x17 ((rd x10 x16) == ((x17) % 256))) else (none)) else (foghornlaw18_FieldRoots.j3 k x1 x2 x10 x12 x14 x16 x17 false)) else (if 0 ≤ (mn (x1.length : Int) 20) then (if (mn (x1.length : Int) 20) ≤ (x1.length : Int) then ((field_Sum.f k (x1.take ((mn (x1.length : Int) 20) : Int).toNat) ([] : List Int)).bind fun bt710 => (foghornlaw18_FieldRoots.l2 k x2 x10 x16 bt710.1 bt710.2 ([] : List (S45)) 0)) else (none)) else (none))
def foghornlaw18_FieldRoots.j3 : Nat → List Int → Int → List Int → List Int → List Int → Int → Int → Bool → Option (Bool)
  | 0, _, _, _, _, _, _, _, _ => none
  | k + 1, x1, x2, x10, x12, x14, x16, x17, x18 => if x18 = true then ((field_At.f x12 ((x17) % 256)).bind fun bt702 => (if bt702.2 = 0 then (if 0 ≤ x17 then (if x17 < 256 then (if x17 < (x14.length : Int) then (if (x18 != (decide ((rd x14 x17) > 0))) = true then (some false) else (if ((bt702.1 == 0) != (decide ((rd x14 x17) > 1))) = true then (some false) else (foghornlaw18_FieldRoots.l1 k x1 x2 x10 x12 x14 (wrap64 (x16 + 1)) (wrap64 (x17 + 1))))) else (none)) else (none)) else (none)) else (some false))) else ((field_At.f x12 ((x17) % 256)).bind fun bt706 => (if bt706.2 = 0 then (if 0 ≤ x17 then (if x17 < 256 then (if x17 < (x14.length : Int) then (if (x18 != (decide ((rd x14 x17) > 0))) = true then (some false) else (foghornlaw18_FieldRoots.l1 k x1 x2 x10 x12 x14 x16 (wrap64 (x17 + 1)))) else (none)) else (none)) else (none)) else (some false)))
def foghornlaw18_FieldRoots.l2 : Nat → Int → List Int → Int → List Int → Int → List (S45) → Int → Option (Bool)
  | 0, _, _, _, _, _, _, _ => none
  | k + 1, x2, x10, x16, x21, x22, x23, x24 => if x24 < (wrap64 ((x21.length : Int) + 3)) then ((field_At.f x21 ((x2 + x24) % 256)).bind fun bt714 => (if bt714.2 = 0 then (if x23.length < 70368744177664 then (foghornlaw18_FieldRoots.l2 k x2 x10 x16 x21 x22 (x23 ++ [(⟨(x2 + x24) % 256, bt714.1⟩ : S45)]) (wrap64 (x24 + 1))) else (none)) else (some false))) else ((field_Through.f k x23).bind fun bt719 => (if 0 < (x23.length : Int) then (if x23.length < 70368744177664 then ((field_Through.f k (x23 ++ [(⟨(rd_T45 x23 0).f0, (rd_T45 x23 0).f1⟩ : S45)])).bind fun bt727 => (if x16 = (x10.length : Int) then (if x22 = 0 then (if bt719.2 = 0 then ((foghornlaw18_same.f k bt719.1 x21).bind fun t731 => (if t731 = true then (if bt727.2 = 1 then (if (bt727.1.length : Int) = 0 then ((foghornlaw18_awake.f k).bind fun t732 => (some t732)) else (some false)) else (some false)) else (some false))) else (some false)) else (some false)) else (some false))) else (none)) else (none)))
end
def foghornlaw18_FieldRoots.f (k : Nat) (l0 : List Int) (l1 : List Int) (a2 : Int) : Option (Bool) := if 0 ≤ (mn (l0.length : Int) 30) then (if (mn (l0.length : Int) 30) ≤ (l0.length : Int) then ((field_Of.f k (l0.take ((mn (l0.length : Int) 30) : Int).toNat)).bind fun bt682 => ((field_Roots.f k bt682.1).bind fun bt686 => ((field_Slope.f k bt682.1).bind fun bt690 => (if bt682.2 = 0 then (if bt686.2 = 0 then (if bt690.2 = 0 then ((foghornlaw18_degree.f bt682.1).bind fun t694 => (if t694 = ((l0.take ((mn (l0.length : Int) 30) : Int).toNat).length : Int) then (foghornlaw18_FieldRoots.j0 k l1 a2 (l0.take ((mn (l0.length : Int) 30) : Int).toNat) bt686.1 bt690.1 (decide ((bt686.1.length : Int) > ((l0.take ((mn (l0.length : Int) 30) : Int).toNat).length : Int)))) else (foghornlaw18_FieldRoots.j0 k l1 a2 (l0.take ((mn (l0.length : Int) 30) : Int).toNat) bt686.1 bt690.1 true))) else (foghornlaw18_FieldRoots.j0 k l1 a2 (l0.take ((mn (l0.length : Int) 30) : Int).toNat) bt686.1 bt690.1 true)) else (foghornlaw18_FieldRoots.j0 k l1 a2 (l0.take ((mn (l0.length : Int) 30) : Int).toNat) bt686.1 bt690.1 true)) else (foghornlaw18_FieldRoots.j0 k l1 a2 (l0.take ((mn (l0.length : Int) 30) : Int).toNat) bt686.1 bt690.1 true))))) else (none)) else (none)
theorem foghornlaw18_FieldRoots.mono_l : ∀ k, (∀ y0 y1 y2 y3 y4 y5, LeO (foghornlaw18_FieldRoots.j0 k y0 y1 y2 y3 y4 y5) (foghornlaw18_FieldRoots.j0 (k + 1) y0 y1 y2 y3 y4 y5)) ∧ (∀ y0 y1 y2 y3 y4 y5 y6, LeO (foghornlaw18_FieldRoots.l0 k y0 y1 y2 y3 y4 y5 y6) (foghornlaw18_FieldRoots.l0 (k + 1) y0 y1 y2 y3 y4 y5 y6)) ∧ (∀ y0 y1 y2 y3 y4 y5 y6, LeO (foghornlaw18_FieldRoots.l1 k y0 y1 y2 y3 y4 y5 y6) (foghornlaw18_FieldRoots.l1 (k + 1) y0 y1 y2 y3 y4 y5 y6)) ∧ (∀ y0 y1 y2 y3 y4 y5 y6 y7, LeO (foghornlaw18_FieldRoots.j3 k y0 y1 y2 y3 y4 y5 y6 y7) (foghornlaw18_FieldRoots.j3 (k + 1) y0 y1 y2 y3 y4 y5 y6 y7)) ∧ (∀ y0 y1 y2 y3 y4 y5 y6, LeO (foghornlaw18_FieldRoots.l2 k y0 y1 y2 y3 y4 y5 y6) (foghornlaw18_FieldRoots.l2 (k + 1) y0 y1 y2 y3 y4 y5 y6))
  | 0 => ⟨fun _ _ _ _ _ _ r h => by simp [foghornlaw18_FieldRoots.j0] at h, fun _ _ _ _ _ _ _ r h => by simp [foghornlaw18_FieldRoots.l0] at h, fun _ _ _ _ _ _ _ r h => by simp [foghornlaw18_FieldRoots.l1] at h, fun _ _ _ _ _ _ _ _ r h => by simp [foghornlaw18_FieldRoots.j3] at h, fun _ _ _ _ _ _ _ r h => by simp [foghornlaw18_FieldRoots.l2] at h⟩
  | k + 1 => by
    obtain ⟨ih0, ih1, ih2, ih3, ih4⟩ := foghornlaw18_FieldRoots.mono_l k
    refine ⟨?_, ?_, ?_, ?_, ?_⟩
    · intro y0 y1 y2 y3 y4 y5
      unfold foghornlaw18_FieldRoots.j0
      repeat' first
      | (with_reducible exact ih0 _ _ _ _ _ _)
      | (with_reducible exact ih1 _ _ _ _ _ _ _)
      | (with_reducible exact ih2 _ _ _ _ _ _ _)
      | (with_reducible exact ih3 _ _ _ _ _ _ _ _)
      | (with_reducible exact ih4 _ _ _ _ _ _ _)
      | (with_reducible exact field_Of.mono _ _)
      | (with_reducible exact field_Roots.mono _ _)
      | (with_reducible exact field_Slope.mono _ _)
      | (with_reducible exact field_Sum.mono _ _ _)
      | (with_reducible exact field_Through.mono _ _)
      | (with_reducible exact foghornlaw18_awake.mono _)
      | (with_reducible exact foghornlaw18_same.mono _ _ _)
      | (with_reducible exact LeO.refl _)
      | (with_reducible exact LeO.none _)
      | (with_reducible refine LeO.ite ?_ ?_)
      | (with_reducible refine LeO.bind ?_ (fun _ => ?_))
      | exact ih0 _ _ _ _ _ _
      | exact ih1 _ _ _ _ _ _ _
      | exact ih2 _ _ _ _ _ _ _
      | exact ih3 _ _ _ _ _ _ _ _
      | exact ih4 _ _ _ _ _ _ _
      | exact field_Of.mono _ _
      | exact field_Roots.mono _ _
      | exact field_Slope.mono _ _
      | exact field_Sum.mono _ _ _
      | exact field_Through.mono _ _
      | exact foghornlaw18_awake.mono _
      | exact foghornlaw18_same.mono _ _ _
      | exact LeO.none _
      | refine LeO.ite ?_ ?_
      | refine LeO.bind ?_ (fun _ => ?_)
    · intro y0 y1 y2 y3 y4 y5 y6
      unfold foghornlaw18_FieldRoots.l0
      repeat' first
      | (with_reducible exact ih0 _ _ _ _ _ _)
      | (with_reducible exact ih1 _ _ _ _ _ _ _)
      | (with_reducible exact ih2 _ _ _ _ _ _ _)
      | (with_reducible exact ih3 _ _ _ _ _ _ _ _)
      | (with_reducible exact ih4 _ _ _ _ _ _ _)
      | (with_reducible exact field_Of.mono _ _)
      | (with_reducible exact field_Roots.mono _ _)
      | (with_reducible exact field_Slope.mono _ _)
      | (with_reducible exact field_Sum.mono _ _ _)
      | (with_reducible exact field_Through.mono _ _)
      | (with_reducible exact foghornlaw18_awake.mono _)
      | (with_reducible exact foghornlaw18_same.mono _ _ _)
      | (with_reducible exact LeO.refl _)
      | (with_reducible exact LeO.none _)
      | (with_reducible refine LeO.ite ?_ ?_)
      | (with_reducible refine LeO.bind ?_ (fun _ => ?_))
      | exact ih0 _ _ _ _ _ _
      | exact ih1 _ _ _ _ _ _ _
      | exact ih2 _ _ _ _ _ _ _
      | exact ih3 _ _ _ _ _ _ _ _
      | exact ih4 _ _ _ _ _ _ _
      | exact field_Of.mono _ _
      | exact field_Roots.mono _ _
      | exact field_Slope.mono _ _
      | exact field_Sum.mono _ _ _
      | exact field_Through.mono _ _
      | exact foghornlaw18_awake.mono _
      | exact foghornlaw18_same.mono _ _ _
      | exact LeO.none _
      | refine LeO.ite ?_ ?_
      | refine LeO.bind ?_ (fun _ => ?_)
    · intro y0 y1 y2 y3 y4 y5 y6
      unfold foghornlaw18_FieldRoots.l1
      repeat' first
      | (with_reducible exact ih0 _ _ _ _ _ _)
      | (with_reducible exact ih1 _ _ _ _ _ _ _)
      | (with_reducible exact ih2 _ _ _ _ _ _ _)
      | (with_reducible exact ih3 _ _ _ _ _ _ _ _)
      | (with_reducible exact ih4 _ _ _ _ _ _ _)
      | (with_reducible exact field_Of.mono _ _)
      | (with_reducible exact field_Roots.mono _ _)
      | (with_reducible exact field_Slope.mono _ _)
      | (with_reducible exact field_Sum.mono _ _ _)
      | (with_reducible exact field_Through.mono _ _)
      | (with_reducible exact foghornlaw18_awake.mono _)
      | (with_reducible exact foghornlaw18_same.mono _ _ _)
      | (with_reducible exact LeO.refl _)
      | (with_reducible exact LeO.none _)
      | (with_reducible refine LeO.ite ?_ ?_)
      | (with_reducible refine LeO.bind ?_ (fun _ => ?_))
      | exact ih0 _ _ _ _ _ _
      | exact ih1 _ _ _ _ _ _ _
      | exact ih2 _ _ _ _ _ _ _
      | exact ih3 _ _ _ _ _ _ _ _
      | exact ih4 _ _ _ _ _ _ _
      | exact field_Of.mono _ _
      | exact field_Roots.mono _ _
      | exact field_Slope.mono _ _
      | exact field_Sum.mono _ _ _
      | exact field_Through.mono _ _
      | exact foghornlaw18_awake.mono _
      | exact foghornlaw18_same.mono _ _ _
      | exact LeO.none _
      | refine LeO.ite ?_ ?_
      | refine LeO.bind ?_ (fun _ => ?_)
    · intro y0 y1 y2 y3 y4 y5 y6 y7
      unfold foghornlaw18_FieldRoots.j3
      repeat' first
      | (with_reducible exact ih0 _ _ _ _ _ _)
      | (with_reducible exact ih1 _ _ _ _ _ _ _)
      | (with_reducible exact ih2 _ _ _ _ _ _ _)
      | (with_reducible exact ih3 _ _ _ _ _ _ _ _)
      | (with_reducible exact ih4 _ _ _ _ _ _ _)
      | (with_reducible exact field_Of.mono _ _)
      | (with_reducible exact field_Roots.mono _ _)
      | (with_reducible exact field_Slope.mono _ _)
      | (with_reducible exact field_Sum.mono _ _ _)
      | (with_reducible exact field_Through.mono _ _)
      | (with_reducible exact foghornlaw18_awake.mono _)
      | (with_reducible exact foghornlaw18_same.mono _ _ _)
      | (with_reducible exact LeO.refl _)
      | (with_reducible exact LeO.none _)
      | (with_reducible refine LeO.ite ?_ ?_)
      | (with_reducible refine LeO.bind ?_ (fun _ => ?_))
      | exact ih0 _ _ _ _ _ _
      | exact ih1 _ _ _ _ _ _ _
      | exact ih2 _ _ _ _ _ _ _
      | exact ih3 _ _ _ _ _ _ _ _
      | exact ih4 _ _ _ _ _ _ _
      | exact field_Of.mono _ _
      | exact field_Roots.mono _ _
      | exact field_Slope.mono _ _
      | exact field_Sum.mono _ _ _
      | exact field_Through.mono _ _
      | exact foghornlaw18_awake.mono _
      | exact foghornlaw18_same.mono _ _ _
      | exact LeO.none _
      | refine LeO.ite ?_ ?_
      | refine LeO.bind ?_ (fun _ => ?_)
    · intro y0 y1 y2 y3 y4 y5 y6
      unfold foghornlaw18_FieldRoots.l2
      repeat' first
      | (with_reducible exact ih0 _ _ _ _ _ _)
      | (with_reducible exact ih1 _ _ _ _ _ _ _)
      | (with_reducible exact ih2 _ _ _ _ _ _ _)
      | (with_reducible exact ih3 _ _ _ _ _ _ _ _)
      | (with_reducible exact ih4 _ _ _ _ _ _ _)
      | (with_reducible exact field_Of.mono _ _)
      | (with_reducible exact field_Roots.mono _ _)
      | (with_reducible exact field_Slope.mono _ _)
      | (with_reducible exact field_Sum.mono _ _ _)
      | (with_reducible exact field_Through.mono _ _)
      | (with_reducible exact foghornlaw18_awake.mono _)
      | (with_reducible exact foghornlaw18_same.mono _ _ _)
      | (with_reducible exact LeO.refl _)
      | (with_reducible exact LeO.none _)
      | (with_reducible refine LeO.ite ?_ ?_)
      | (with_reducible refine LeO.bind ?_ (fun _ => ?_))
      | exact ih0 _ _ _ _ _ _
      | exact ih1 _ _ _ _ _ _ _
      | exact ih2 _ _ _ _ _ _ _
      | exact ih3 _ _ _ _ _ _ _ _
      | exact ih4 _ _ _ _ _ _ _
      | exact field_Of.mono _ _
      | exact field_Roots.mono _ _
      | exact field_Slope.mono _ _
      | exact field_Sum.mono _ _ _
      | exact field_Through.mono _ _
      | exact foghornlaw18_awake.mono _
      | exact foghornlaw18_same.mono _ _ _
      | exact LeO.none _
      | refine LeO.ite ?_ ?_
      | refine LeO.bind ?_ (fun _ => ?_)
theorem foghornlaw18_FieldRoots.mono : ∀ a0 a1 a2 k, LeO (foghornlaw18_FieldRoots.f k a0 a1 a2) (foghornlaw18_FieldRoots.f (k + 1) a0 a1 a2) := by
  intro a0 a1 a2 k
  obtain ⟨ih0, ih1, ih2, ih3, ih4⟩ := foghornlaw18_FieldRoots.mono_l k
  unfold foghornlaw18_FieldRoots.f
  repeat' first
      | (with_reducible exact ih0 _ _ _ _ _ _)
      | (with_reducible exact ih1 _ _ _ _ _ _ _)
      | (with_reducible exact ih2 _ _ _ _ _ _ _)
      | (with_reducible exact ih3 _ _ _ _ _ _ _ _)
      | (with_reducible exact ih4 _ _ _ _ _ _ _)
      | (with_reducible exact field_Of.mono _ _)
      | (with_reducible exact field_Roots.mono _ _)
      | (with_reducible exact field_Slope.mono _ _)
      | (with_reducible exact field_Sum.mono _ _ _)
      | (with_reducible exact field_Through.mono _ _)
      | (with_reducible exact foghornlaw18_awake.mono _)
      | (with_reducible exact foghornlaw18_same.mono _ _ _)
      | (with_reducible exact LeO.refl _)
      | (with_reducible exact LeO.none _)
      | (with_reducible refine LeO.ite ?_ ?_)
      | (with_reducible refine LeO.bind ?_ (fun _ => ?_))
      | exact ih0 _ _ _ _ _ _
      | exact ih1 _ _ _ _ _ _ _
      | exact ih2 _ _ _ _ _ _ _
      | exact ih3 _ _ _ _ _ _ _ _
      | exact ih4 _ _ _ _ _ _ _
      | exact field_Of.mono _ _
      | exact field_Roots.mono _ _
      | exact field_Slope.mono _ _
      | exact field_Sum.mono _ _ _
      | exact field_Through.mono _ _
      | exact foghornlaw18_awake.mono _
      | exact foghornlaw18_same.mono _ _ _
      | exact LeO.none _
      | refine LeO.ite ?_ ?_
      | refine LeO.bind ?_ (fun _ => ?_)
/-- THE ONE PURE STATEMENT of foghornlaw18_FieldRoots: yours. -/
def foghornlaw18_FieldRoots.Pure : Prop := ∀ (l0 : List Int) (l1 : List Int) (a2 : Int), l0.length ≤ maxLen → l0.length * 1 ≤ 140737488351232 → (∀ x ∈ l0, (Lit.int .u8 x).wf = true) → l1.length ≤ maxLen → l1.length * 1 ≤ 140737488351232 → (∀ x ∈ l1, (Lit.int .u8 x).wf = true) → (Lit.int .u8 a2).wf = true → ∃ k, foghornlaw18_FieldRoots.f k l0 l1 a2 = some true

/-! ### foghornlaw18_lent: function 60 -/
def foghornlaw18_lent.f (l0 : List Int) : Option (List Int) := (some (([] : List Int) : List Int)).bind fun y733 => (if y733.length + l0.length < 140737488355328 then ((some (y733 ++ l0 : List Int)).bind fun y736 => (if y736.length < 140737488355328 then ((some (y736 ++ [77] : List Int)).bind fun y739 => (if 0 ≤ (l0.length : Int) then (if (l0.length : Int) ≤ (y739.length : Int) then (some (y739.take ((l0.length : Int) : Int).toNat)) else (none)) else (none))) else (none))) else (none))

/-! ### foghornlaw18_spoilt: function 81 -/
mutual
def foghornlaw18_spoilt.l0 : Nat → List Int → List Int → List Int → Int → Option (Bool)
  | 0, _, _, _, _ => none
  | k + 1, x0, x1, x2, x7 => if x7 < (x0.length : Int) then (if 0 ≤ x7 then (foghornlaw18_spoilt.l0 k (x0.set (x7 : Int).toNat (Go.bits .xor .u8 (rd x0 x7) 255)) x1 x2 (wrap64 (x7 + 1))) else (none)) else (foghornlaw18_spoilt.l1 k x0 x1 x2 0)
def foghornlaw18_spoilt.l1 : Nat → List Int → List Int → List Int → Int → Option (Bool)
  | 0, _, _, _, _ => none
  | k + 1, x0, x1, x2, x8 => if x8 < 20 then (if x0.length < 140737488355328 then (foghornlaw18_spoilt.l1 k (x0 ++ [99]) x1 x2 (wrap64 (x8 + 1))) else (none)) else ((foghornref18_Same.f k x1 x2).bind fun t750 => (foghornlaw18_spoilt.l2 k x0 t750 0))
def foghornlaw18_spoilt.l2 : Nat → List Int → Bool → Int → Option (Bool)
  | 0, _, _, _ => none
  | k + 1, x0, x9, x10 => if x10 < (wrap64 ((x0.length : Int) - 20)) then (if 0 ≤ x10 then (if x10 < (x0.length : Int) then (foghornlaw18_spoilt.l2 k (x0.set (x10 : Int).toNat (Go.bits .xor .u8 (rd x0 x10) 255)) x9 (wrap64 (x10 + 1))) else (none)) else (none)) else (some x9)
end
def foghornlaw18_spoilt.f (k : Nat) (l0 : List Int) (l1 : List Int) (l2 : List Int) : Option (Bool) := foghornlaw18_spoilt.l0 k l0 l1 l2 0
theorem foghornlaw18_spoilt.mono_l : ∀ k, (∀ y0 y1 y2 y3, LeO (foghornlaw18_spoilt.l0 k y0 y1 y2 y3) (foghornlaw18_spoilt.l0 (k + 1) y0 y1 y2 y3)) ∧ (∀ y0 y1 y2 y3, LeO (foghornlaw18_spoilt.l1 k y0 y1 y2 y3) (foghornlaw18_spoilt.l1 (k + 1) y0 y1 y2 y3)) ∧ (∀ y0 y1 y2, LeO (foghornlaw18_spoilt.l2 k y0 y1 y2) (foghornlaw18_spoilt.l2 (k + 1) y0 y1 y2))
  | 0 => ⟨fun _ _ _ _ r h => by simp [foghornlaw18_spoilt.l0] at h, fun _ _ _ _ r h => by simp [foghornlaw18_spoilt.l1] at h, fun _ _ _ r h => by simp [foghornlaw18_spoilt.l2] at h⟩
  | k + 1 => by
    obtain ⟨ih0, ih1, ih2⟩ := foghornlaw18_spoilt.mono_l k
    refine ⟨?_, ?_, ?_⟩
    · intro y0 y1 y2 y3
      unfold foghornlaw18_spoilt.l0
      repeat' first
      | (with_reducible exact ih0 _ _ _ _)
      | (with_reducible exact ih1 _ _ _ _)
      | (with_reducible exact ih2 _ _ _)
      | (with_reducible exact foghornref18_Same.mono _ _ _)
      | (with_reducible exact LeO.refl _)
      | (with_reducible exact LeO.none _)
      | (with_reducible refine LeO.ite ?_ ?_)
      | (with_reducible refine LeO.bind ?_ (fun _ => ?_))
      | exact ih0 _ _ _ _
      | exact ih1 _ _ _ _
      | exact ih2 _ _ _
      | exact foghornref18_Same.mono _ _ _
      | exact LeO.none _
      | refine LeO.ite ?_ ?_
      | refine LeO.bind ?_ (fun _ => ?_)
    · intro y0 y1 y2 y3
      unfold foghornlaw18_spoilt.l1
      repeat' first
      | (with_reducible exact ih0 _ _ _ _)
      | (with_reducible exact ih1 _ _ _ _)
      | (with_reducible exact ih2 _ _ _)
      | (with_reducible exact foghornref18_Same.mono _ _ _)
      | (with_reducible exact LeO.refl _)
      | (with_reducible exact LeO.none _)
      | (with_reducible refine LeO.ite ?_ ?_)
      | (with_reducible refine LeO.bind ?_ (fun _ => ?_))
      | exact ih0 _ _ _ _
      | exact ih1 _ _ _ _
      | exact ih2 _ _ _
      | exact foghornref18_Same.mono _ _ _
      | exact LeO.none _
      | refine LeO.ite ?_ ?_
      | refine LeO.bind ?_ (fun _ => ?_)
    · intro y0 y1 y2
      unfold foghornlaw18_spoilt.l2
      repeat' first
      | (with_reducible exact ih0 _ _ _ _)
      | (with_reducible exact ih1 _ _ _ _)
      | (with_reducible exact ih2 _ _ _)
      | (with_reducible exact foghornref18_Same.mono _ _ _)
      | (with_reducible exact LeO.refl _)
      | (with_reducible exact LeO.none _)
      | (with_reducible refine LeO.ite ?_ ?_)
      | (with_reducible refine LeO.bind ?_ (fun _ => ?_))
      | exact ih0 _ _ _ _
      | exact ih1 _ _ _ _
      | exact ih2 _ _ _
      | exact foghornref18_Same.mono _ _ _
      | exact LeO.none _
      | refine LeO.ite ?_ ?_
      | refine LeO.bind ?_ (fun _ => ?_)
theorem foghornlaw18_spoilt.mono : ∀ a0 a1 a2 k, LeO (foghornlaw18_spoilt.f k a0 a1 a2) (foghornlaw18_spoilt.f (k + 1) a0 a1 a2) := by
  intro a0 a1 a2 k
  obtain ⟨ih0, ih1, ih2⟩ := foghornlaw18_spoilt.mono_l k
  unfold foghornlaw18_spoilt.f
  repeat' first
      | (with_reducible exact ih0 _ _ _ _)
      | (with_reducible exact ih1 _ _ _ _)
      | (with_reducible exact ih2 _ _ _)
      | (with_reducible exact foghornref18_Same.mono _ _ _)
      | (with_reducible exact LeO.refl _)
      | (with_reducible exact LeO.none _)
      | (with_reducible refine LeO.ite ?_ ?_)
      | (with_reducible refine LeO.bind ?_ (fun _ => ?_))
      | exact ih0 _ _ _ _
      | exact ih1 _ _ _ _
      | exact ih2 _ _ _
      | exact foghornref18_Same.mono _ _ _
      | exact LeO.none _
      | refine LeO.ite ?_ ?_
      | refine LeO.bind ?_ (fun _ => ?_)

/-! ### foghornref18_Product: function 82 -/
def foghornref18_Product.f (k : Nat) (l0 : List Int) (l1 : List Int) : Option (List Int × Int) := (foghornref18_may.f l0 l1).bind fun t753 => (if t753 = true then ((foghornref18_Trim.f k l0).bind fun t754 => ((foghornref18_Trim.f k l1).bind fun t757 => (if (t754.length : Int) > 0 then (if (t757.length : Int) > 0 then (if (wrap64 ((wrap64 ((t754.length : Int) + (t757.length : Int))) - 1)) > 512 then (some (([] : List Int), 1)) else ((foghornref18_product.f k t754 t757).bind fun t760 => (some (t760, 0)))) else ((foghornref18_product.f k t754 t757).bind fun t763 => (some (t763, 0)))) else ((foghornref18_product.f k t754 t757).bind fun t766 => (some (t766, 0)))))) else (some (([] : List Int), 1)))
theorem foghornref18_Product.mono : ∀ a0 a1 k, LeO (foghornref18_Product.f k a0 a1) (foghornref18_Product.f (k + 1) a0 a1) := by
  intro a0 a1 k
  unfold foghornref18_Product.f
  repeat' first
      | (with_reducible exact foghornref18_Trim.mono _ _)
      | (with_reducible exact foghornref18_product.mono _ _ _)
      | (with_reducible exact LeO.refl _)
      | (with_reducible exact LeO.none _)
      | (with_reducible refine LeO.ite ?_ ?_)
      | (with_reducible refine LeO.bind ?_ (fun _ => ?_))
      | exact foghornref18_Trim.mono _ _
      | exact foghornref18_product.mono _ _ _
      | exact LeO.none _
      | refine LeO.ite ?_ ?_
      | refine LeO.bind ?_ (fun _ => ?_)

end Go.Proofs.Ytmdeldiocaofkaa.Q
