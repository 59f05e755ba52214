-- Printed by myprint.py (ours) over the kit's printer, out of the translation.
import Derived.Test.YtmdeldiocaofkaaQ0
namespace Go.Proofs.Ytmdeldiocaofkaa.Q
open Go.RowKit Go.Proofs.YtmdeldiocaofkaaW.PrintWords Go.Proofs.YtmdeldiocaofkaaW.PrintLast Go.Proofs.YtmdeldiocaofkaaW.PrintMore
attribute [local go_sem] ArrW.ptrOf_slice max2_int min2_int max_two min_two max_three min_three max_four min_four   -- for this text's walks alone
set_option linter.unusedVariables false
set_option linter.unusedSimpArgs false

/-! ### field_Times: function 28 -/
def field_Times.l0 : Nat → Int → Int → Int → Option (Int)
  | 0, _, _, _ => none
  | k + 1, x0, x1, x5 => if x1 > 0 then (field_Times.l0 k (Go.bits .xor .u8 ((x0 * 2) % 256) (((x0 / 128) * 29) % 256)) (x1 / 2) (Go.bits .xor .u8 x5 ((x0 * (Go.bits .and .u8 x1 1)) % 256))) else (some x5)
def field_Times.f (k : Nat) (a0 : Int) (a1 : Int) : Option (Int) := field_Times.l0 k a0 a1 0
theorem field_Times.mono_l : ∀ k, (∀ y0 y1 y2, LeO (field_Times.l0 k y0 y1 y2) (field_Times.l0 (k + 1) y0 y1 y2))
  | 0 => fun _ _ _ r h => by simp [field_Times.l0] at h
  | k + 1 => by
    have ih0 := field_Times.mono_l k
    · intro y0 y1 y2
      unfold field_Times.l0
      repeat' first
      | (with_reducible exact ih0 _ _ _)
      | (with_reducible exact LeO.refl _)
      | (with_reducible exact LeO.none _)
      | (with_reducible refine LeO.ite ?_ ?_)
      | (with_reducible refine LeO.bind ?_ (fun _ => ?_))
      | exact ih0 _ _ _
      | exact LeO.none _
      | refine LeO.ite ?_ ?_
      | refine LeO.bind ?_ (fun _ => ?_)
theorem field_Times.mono : ∀ a0 a1 k, LeO (field_Times.f k a0 a1) (field_Times.f (k + 1) a0 a1) := by
  intro a0 a1 k
  have ih0 := field_Times.mono_l k
  unfold field_Times.f
  repeat' first
      | (with_reducible exact ih0 _ _ _)
      | (with_reducible exact LeO.refl _)
      | (with_reducible exact LeO.none _)
      | (with_reducible refine LeO.ite ?_ ?_)
      | (with_reducible refine LeO.bind ?_ (fun _ => ?_))
      | exact ih0 _ _ _
      | exact LeO.none _
      | refine LeO.ite ?_ ?_
      | refine LeO.bind ?_ (fun _ => ?_)

/-! ### field_raised: function 68 -/
def field_raised.l0 : Nat → Int → Int → Int → Option (Int)
  | 0, _, _, _ => none
  | k + 1, x0, x1, x5 => if x1 > 0 then (if (Go.bits .and .i64 x1 1) > 0 then ((field_Times.f k x5 x0).bind fun t101 => ((field_Times.f k x0 x0).bind fun t102 => (field_raised.l0 k t102 (x1 / 2) t101))) else ((field_Times.f k x0 x0).bind fun t103 => (field_raised.l0 k t103 (x1 / 2) x5))) else (some x5)
def field_raised.f (k : Nat) (a0 : Int) (a1 : Int) : Option (Int) := field_raised.l0 k a0 a1 1
theorem field_raised.mono_l : ∀ k, (∀ y0 y1 y2, LeO (field_raised.l0 k y0 y1 y2) (field_raised.l0 (k + 1) y0 y1 y2))
  | 0 => fun _ _ _ r h => by simp [field_raised.l0] at h
  | k + 1 => by
    have ih0 := field_raised.mono_l k
    · intro y0 y1 y2
      unfold field_raised.l0
      repeat' first
      | (with_reducible exact ih0 _ _ _)
      | (with_reducible exact field_Times.mono _ _ _)
      | (with_reducible exact LeO.refl _)
      | (with_reducible exact LeO.none _)
      | (with_reducible refine LeO.ite ?_ ?_)
      | (with_reducible refine LeO.bind ?_ (fun _ => ?_))
      | exact ih0 _ _ _
      | exact field_Times.mono _ _ _
      | exact LeO.none _
      | refine LeO.ite ?_ ?_
      | refine LeO.bind ?_ (fun _ => ?_)
theorem field_raised.mono : ∀ a0 a1 k, LeO (field_raised.f k a0 a1) (field_raised.f (k + 1) a0 a1) := by
  intro a0 a1 k
  have ih0 := field_raised.mono_l k
  unfold field_raised.f
  repeat' first
      | (with_reducible exact ih0 _ _ _)
      | (with_reducible exact field_Times.mono _ _ _)
      | (with_reducible exact LeO.refl _)
      | (with_reducible exact LeO.none _)
      | (with_reducible refine LeO.ite ?_ ?_)
      | (with_reducible refine LeO.bind ?_ (fun _ => ?_))
      | exact ih0 _ _ _
      | exact field_Times.mono _ _ _
      | exact LeO.none _
      | refine LeO.ite ?_ ?_
      | refine LeO.bind ?_ (fun _ => ?_)

/-! ### field_Exp: function 30 -/
def field_Exp.f (k : Nat) (a0 : Int) : Option (Int) := (field_raised.f k 2 (Int.tmod (wrap64 ((Int.tmod a0 255) + 255)) 255)).bind fun t104 => (some t104)
theorem field_Exp.mono : ∀ a0 k, LeO (field_Exp.f k a0) (field_Exp.f (k + 1) a0) := by
  intro a0 k
  unfold field_Exp.f
  repeat' first
      | (with_reducible exact field_raised.mono _ _ _)
      | (with_reducible exact LeO.refl _)
      | (with_reducible exact LeO.none _)
      | (with_reducible refine LeO.ite ?_ ?_)
      | (with_reducible refine LeO.bind ?_ (fun _ => ?_))
      | exact field_raised.mono _ _ _
      | exact LeO.none _
      | refine LeO.ite ?_ ?_
      | refine LeO.bind ?_ (fun _ => ?_)

/-! ### slices_Clone_uint8_uint8: function 80 -/
def slices_Clone_uint8_uint8.f (l0 : List Int) : Option (List Int) := if l0.length < 140737488355328 then some l0 else none

/-! ### field_poly: function 78 -/
def field_poly.l0 : Nat → List Int → Int → Option (List Int)
  | 0, _, _ => none
  | k + 1, x0, x3 => if x3 > 0 then (if 0 ≤ (wrap64 (x3 - 1)) then (if (wrap64 (x3 - 1)) < (x0.length : Int) then (if (rd x0 (wrap64 (x3 - 1))) = 0 then (field_poly.l0 k x0 (wrap64 (x3 - 1))) else (if 0 ≤ x3 then (if x3 ≤ (x0.length : Int) then ((slices_Clone_uint8_uint8.f (x0.take (x3 : Int).toNat)).bind fun t107 => (some t107)) else (none)) else (none))) else (none)) else (none)) else (if 0 ≤ x3 then (if x3 ≤ (x0.length : Int) then ((slices_Clone_uint8_uint8.f (x0.take (x3 : Int).toNat)).bind fun t111 => (some t111)) else (none)) else (none))
def field_poly.f (k : Nat) (l0 : List Int) : Option (List Int) := field_poly.l0 k l0 (l0.length : Int)
theorem field_poly.mono_l : ∀ k, (∀ y0 y1, LeO (field_poly.l0 k y0 y1) (field_poly.l0 (k + 1) y0 y1))
  | 0 => fun _ _ r h => by simp [field_poly.l0] at h
  | k + 1 => by
    have ih0 := field_poly.mono_l k
    · intro y0 y1
      unfold field_poly.l0
      repeat' first
      | (with_reducible exact ih0 _ _)
      | (with_reducible exact LeO.refl _)
      | (with_reducible exact LeO.none _)
      | (with_reducible refine LeO.ite ?_ ?_)
      | (with_reducible refine LeO.bind ?_ (fun _ => ?_))
      | exact ih0 _ _
      | exact LeO.none _
      | refine LeO.ite ?_ ?_
      | refine LeO.bind ?_ (fun _ => ?_)
theorem field_poly.mono : ∀ a0 k, LeO (field_poly.f k a0) (field_poly.f (k + 1) a0) := by
  intro a0 k
  have ih0 := field_poly.mono_l k
  unfold field_poly.f
  repeat' first
      | (with_reducible exact ih0 _ _)
      | (with_reducible exact LeO.refl _)
      | (with_reducible exact LeO.none _)
      | (with_reducible refine LeO.ite ?_ ?_)
      | (with_reducible refine LeO.bind ?_ (fun _ => ?_))
      | exact ih0 _ _
      | exact LeO.none _
      | refine LeO.ite ?_ ?_
      | refine LeO.bind ?_ (fun _ => ?_)

/-! ### field_product: function 71 -/
mutual
def field_product.l0 : Nat → List Int → List Int → List Int → Int → Int → Option (List Int)
  | 0, _, _, _, _, _ => none
  | k + 1, x1, x5, x16, x17, x18 => if x18 < x17 then (if 0 ≤ x18 then (if x18 < (x16.length : Int) then (field_product.l1 k x1 x5 x18 (rd x16 x18) x16 x17 x18 x1 (x1.length : Int) 0) else (none)) else (none)) else ((field_poly.f k x5).bind fun t117 => (some t117))
def field_product.l1 : Nat → List Int → List Int → Int → Int → List Int → Int → Int → List Int → Int → Int → Option (List Int)
  | 0, _, _, _, _, _, _, _, _, _, _ => none
  | k + 1, x1, x5, x6, x7, x16, x17, x18, x23, x24, x25 => if x25 < x24 then (if 0 ≤ x25 then (if x25 < (x23.length : Int) then (if 0 ≤ (wrap64 (x6 + x25)) then (if (wrap64 (x6 + x25)) < (x5.length : Int) then ((field_Times.f k x7 (rd x23 x25)).bind fun t123 => (field_product.l1 k x1 (x5.set ((wrap64 (x6 + x25)) : Int).toNat (Go.bits .xor .u8 (rd x5 (wrap64 (x6 + x25))) t123)) x6 x7 x16 x17 x18 x23 x24 (wrap64 (x25 + 1)))) else (none)) else (none)) else (none)) else (none)) else (field_product.l0 k x1 x5 x16 x17 (wrap64 (x18 + 1)))
end
def field_product.f (k : Nat) (l0 : List Int) (l1 : List Int) : Option (List Int) := if 0 ≤ (wrap64 ((l0.length : Int) + (l1.length : Int))) then (if (wrap64 ((l0.length : Int) + (l1.length : Int)) : Int).toNat ≤ 281474976710656 then (field_product.l0 k l1 (List.replicate (wrap64 ((l0.length : Int) + (l1.length : Int)) : Int).toNat 0) l0 (l0.length : Int) 0) else (none)) else (none)
theorem field_product.mono_l : ∀ k, (∀ y0 y1 y2 y3 y4, LeO (field_product.l0 k y0 y1 y2 y3 y4) (field_product.l0 (k + 1) y0 y1 y2 y3 y4)) ∧ (∀ y0 y1 y2 y3 y4 y5 y6 y7 y8 y9, LeO (field_product.l1 k y0 y1 y2 y3 y4 y5 y6 y7 y8 y9) (field_product.l1 (k + 1) y0 y1 y2 y3 y4 y5 y6 y7 y8 y9))
  | 0 => ⟨fun _ _ _ _ _ r h => by simp [field_product.l0] at h, fun _ _ _ _ _ _ _ _ _ _ r h => by simp [field_product.l1] at h⟩
  | k + 1 => by
    obtain ⟨ih0, ih1⟩ := field_product.mono_l k
    refine ⟨?_, ?_⟩
    · intro y0 y1 y2 y3 y4
      unfold field_product.l0
      repeat' first
      | (with_reducible exact ih0 _ _ _ _ _)
      | (with_reducible exact ih1 _ _ _ _ _ _ _ _ _ _)
      | (with_reducible exact field_Times.mono _ _ _)
      | (with_reducible exact field_poly.mono _ _)
      | (with_reducible exact LeO.refl _)
      | (with_reducible exact LeO.none _)
      | (with_reducible refine LeO.ite ?_ ?_)
      | (with_reducible refine LeO.bind ?_ (fun _ => ?_))
      | exact ih0 _ _ _ _ _
      | exact ih1 _ _ _ _ _ _ _ _ _ _
      | exact field_Times.mono _ _ _
      | exact field_poly.mono _ _
      | exact LeO.none _
      | refine LeO.ite ?_ ?_
      | refine LeO.bind ?_ (fun _ => ?_)
    · intro y0 y1 y2 y3 y4 y5 y6 y7 y8 y9
      unfold field_product.l1
      repeat' first
      | (with_reducible exact ih0 _ _ _ _ _)
      | (with_reducible exact ih1 _ _ _ _ _ _ _ _ _ _)
      | (with_reducible exact field_Times.mono _ _ _)
      | (with_reducible exact field_poly.mono _ _)
      | (with_reducible exact LeO.refl _)
      | (with_reducible exact LeO.none _)
      | (with_reducible refine LeO.ite ?_ ?_)
      | (with_reducible refine LeO.bind ?_ (fun _ => ?_))
      | exact ih0 _ _ _ _ _
      | exact ih1 _ _ _ _ _ _ _ _ _ _
      | exact field_Times.mono _ _ _
      | exact field_poly.mono _ _
      | exact LeO.none _
      | refine LeO.ite ?_ ?_
      | refine LeO.bind ?_ (fun _ => ?_)
theorem field_product.mono : ∀ a0 a1 k, LeO (field_product.f k a0 a1) (field_product.f (k + 1) a0 a1) := by
  intro a0 a1 k
  obtain ⟨ih0, ih1⟩ := field_product.mono_l k
  unfold field_product.f
  repeat' first
      | (with_reducible exact ih0 _ _ _ _ _)
      | (with_reducible exact ih1 _ _ _ _ _ _ _ _ _ _)
      | (with_reducible exact field_Times.mono _ _ _)
      | (with_reducible exact field_poly.mono _ _)
      | (with_reducible exact LeO.refl _)
      | (with_reducible exact LeO.none _)
      | (with_reducible refine LeO.ite ?_ ?_)
      | (with_reducible refine LeO.bind ?_ (fun _ => ?_))
      | exact ih0 _ _ _ _ _
      | exact ih1 _ _ _ _ _ _ _ _ _ _
      | exact field_Times.mono _ _ _
      | exact field_poly.mono _ _
      | exact LeO.none _
      | refine LeO.ite ?_ ?_
      | refine LeO.bind ?_ (fun _ => ?_)
def field_product.T8 : Bool × List (List Nat × List Nat) := (true, [([], []), ([], []), ([], []), ([1, 2], [1, 2]), ([0, 3], [0, 3]), ([4], [4]), ([], []), ([], []), ([6, 7], [6, 7]), ([5, 8], [5, 8]), ([0, 3, 0, 1, 2, 3, 4, 5, 6, 7, 8, 9], [0, 3]), ([10, 9, 8, 0, 1, 2, 3, 4, 5, 6, 7, 8, 9], [9, 10])])
def field_product.B8 : List Nat := [0, 0, 0, 6, 15, 31, 0, 0, 192, 511, 1023, 2047]
theorem field_product.tab8 : rtab .any (opsOf Try.f71 8) = field_product.T8 := by kernel_rfl
theorem field_product.bits8 : waitsOk field_product.T8.2 field_product.B8 = true := by kernel_rfl

/-! ### field_Of: function 57 -/
def field_Of.l0 : Nat → List Int → List Int → Int → Int → Option (List Int × Int)
  | 0, _, _, _, _ => none
  | k + 1, x4, x11, x12, x13 => if x13 < x12 then (if 0 ≤ x13 then (if x13 < (x11.length : Int) then ((field_product.f k x4 (([rd x11 x13, 1] : List Int))).bind fun t132 => (field_Of.l0 k t132 x11 x12 (wrap64 (x13 + 1)))) else (none)) else (none)) else (some (x4, 0))
def field_Of.f (k : Nat) (l0 : List Int) : Option (List Int × Int) := if (l0.length : Int) ≥ 512 then (some (([] : List Int), 1)) else (field_Of.l0 k (([1] : List Int)) l0 (l0.length : Int) 0)
theorem field_Of.mono_l : ∀ k, (∀ y0 y1 y2 y3, LeO (field_Of.l0 k y0 y1 y2 y3) (field_Of.l0 (k + 1) y0 y1 y2 y3))
  | 0 => fun _ _ _ _ r h => by simp [field_Of.l0] at h
  | k + 1 => by
    have ih0 := field_Of.mono_l k
    · intro y0 y1 y2 y3
      unfold field_Of.l0
      repeat' first
      | (with_reducible exact ih0 _ _ _ _)
      | (with_reducible exact field_product.mono _ _ _)
      | (with_reducible exact LeO.refl _)
      | (with_reducible exact LeO.none _)
      | (with_reducible refine LeO.ite ?_ ?_)
      | (with_reducible refine LeO.bind ?_ (fun _ => ?_))
      | exact ih0 _ _ _ _
      | exact field_product.mono _ _ _
      | exact LeO.none _
      | refine LeO.ite ?_ ?_
      | refine LeO.bind ?_ (fun _ => ?_)
theorem field_Of.mono : ∀ a0 k, LeO (field_Of.f k a0) (field_Of.f (k + 1) a0) := by
  intro a0 k
  have ih0 := field_Of.mono_l k
  unfold field_Of.f
  repeat' first
      | (with_reducible exact ih0 _ _ _ _)
      | (with_reducible exact field_product.mono _ _ _)
      | (with_reducible exact LeO.refl _)
      | (with_reducible exact LeO.none _)
      | (with_reducible refine LeO.ite ?_ ?_)
      | (with_reducible refine LeO.bind ?_ (fun _ => ?_))
      | exact ih0 _ _ _ _
      | exact field_product.mono _ _ _
      | exact LeO.none _
      | refine LeO.ite ?_ ?_
      | refine LeO.bind ?_ (fun _ => ?_)

/-! ### reed_checks: function 65 -/
def reed_checks.f (a0 : Int) : Option (Bool) := if a0 ≥ 2 then (if a0 ≤ 64 then (some ((Int.tmod a0 2) == 0)) else (some false)) else (some false)

/-! ### reed_Generator: function 15 -/
def reed_Generator.l0 : Nat → List Int → Int → Int → Option (List Int × Int)
  | 0, _, _, _ => none
  | k + 1, x4, x11, x12 => if x12 < x11 then ((field_Exp.f k x12).bind fun t139 => (if 0 ≤ x12 then (if x12 < (x4.length : Int) then (reed_Generator.l0 k (x4.set (x12 : Int).toNat t139) x11 (wrap64 (x12 + 1))) else (none)) else (none))) else ((field_Of.f k x4).bind fun bt141 => (some (bt141.1, bt141.2)))
def reed_Generator.f (k : Nat) (a0 : Int) : Option (List Int × Int) := (reed_checks.f a0).bind fun t135 => (if t135 = true then (if 0 ≤ a0 then (if (a0 : Int).toNat ≤ 281474976710656 then (reed_Generator.l0 k (List.replicate (a0 : Int).toNat 0) a0 0) else (none)) else (none)) else (some (([] : List Int), 1)))
theorem reed_Generator.mono_l : ∀ k, (∀ y0 y1 y2, LeO (reed_Generator.l0 k y0 y1 y2) (reed_Generator.l0 (k + 1) y0 y1 y2))
  | 0 => fun _ _ _ r h => by simp [reed_Generator.l0] at h
  | k + 1 => by
    have ih0 := reed_Generator.mono_l k
    · intro y0 y1 y2
      unfold reed_Generator.l0
      repeat' first
      | (with_reducible exact ih0 _ _ _)
      | (with_reducible exact field_Exp.mono _ _)
      | (with_reducible exact field_Of.mono _ _)
      | (with_reducible exact LeO.refl _)
      | (with_reducible exact LeO.none _)
      | (with_reducible refine LeO.ite ?_ ?_)
      | (with_reducible refine LeO.bind ?_ (fun _ => ?_))
      | exact ih0 _ _ _
      | exact field_Exp.mono _ _
      | exact field_Of.mono _ _
      | exact LeO.none _
      | refine LeO.ite ?_ ?_
      | refine LeO.bind ?_ (fun _ => ?_)
theorem reed_Generator.mono : ∀ a0 k, LeO (reed_Generator.f k a0) (reed_Generator.f (k + 1) a0) := by
  intro a0 k
  have ih0 := reed_Generator.mono_l k
  unfold reed_Generator.f
  repeat' first
      | (with_reducible exact ih0 _ _ _)
      | (with_reducible exact field_Exp.mono _ _)
      | (with_reducible exact field_Of.mono _ _)
      | (with_reducible exact LeO.refl _)
      | (with_reducible exact LeO.none _)
      | (with_reducible refine LeO.ite ?_ ?_)
      | (with_reducible refine LeO.bind ?_ (fun _ => ?_))
      | exact ih0 _ _ _
      | exact field_Exp.mono _ _
      | exact field_Of.mono _ _
      | exact LeO.none _
      | refine LeO.ite ?_ ?_
      | refine LeO.bind ?_ (fun _ => ?_)

/-! ### foghornref19_Check: function 18 -/
def foghornref19_Check.f (a0 : Int) (a1 : Int) : Option (Int) := if a1 < 2 then (some 1) else (if a1 > 64 then (some 1) else (if (Int.tmod a1 2) = 0 then (if a0 < (wrap64 (a1 + 1)) then (some 1) else (if a0 > 255 then (some 1) else (some 0))) else (some 1)))

/-! ### foghornref19_Times: function 67 -/
def foghornref19_Times.l0 : Nat → Int → Int → Int → Int → Option (Int)
  | 0, _, _, _, _ => none
  | k + 1, x1, x5, x6, x7 => if x7 < 8 then (if 0 ≤ x7 then (if (Go.bits .and .u8 (shr .u8 x1 x7) 1) = 1 then (if (wrap64 (2 * x5)) > 255 then (foghornref19_Times.l0 k x1 (Go.bits .xor .i64 (wrap64 (2 * x5)) 285) (Go.bits .xor .i64 x6 x5) (wrap64 (x7 + 1))) else (foghornref19_Times.l0 k x1 (wrap64 (2 * x5)) (Go.bits .xor .i64 x6 x5) (wrap64 (x7 + 1)))) else (if (wrap64 (2 * x5)) > 255 then (foghornref19_Times.l0 k x1 (Go.bits .xor .i64 (wrap64 (2 * x5)) 285) x6 (wrap64 (x7 + 1))) else (foghornref19_Times.l0 k x1 (wrap64 (2 * x5)) x6 (wrap64 (x7 + 1))))) else (none)) else (some ((x6) % 256))
def foghornref19_Times.f (k : Nat) (a0 : Int) (a1 : Int) : Option (Int) := foghornref19_Times.l0 k a1 (wrap64 (a0)) 0 0
theorem foghornref19_Times.mono_l : ∀ k, (∀ y0 y1 y2 y3, LeO (foghornref19_Times.l0 k y0 y1 y2 y3) (foghornref19_Times.l0 (k + 1) y0 y1 y2 y3))
  | 0 => fun _ _ _ _ r h => by simp [foghornref19_Times.l0] at h
  | k + 1 => by
    have ih0 := foghornref19_Times.mono_l k
    · intro y0 y1 y2 y3
      unfold foghornref19_Times.l0
      repeat' first
      | (with_reducible exact ih0 _ _ _ _)
      | (with_reducible exact LeO.refl _)
      | (with_reducible exact LeO.none _)
      | (with_reducible refine LeO.ite ?_ ?_)
      | (with_reducible refine LeO.bind ?_ (fun _ => ?_))
      | exact ih0 _ _ _ _
      | exact LeO.none _
      | refine LeO.ite ?_ ?_
      | refine LeO.bind ?_ (fun _ => ?_)
theorem foghornref19_Times.mono : ∀ a0 a1 k, LeO (foghornref19_Times.f k a0 a1) (foghornref19_Times.f (k + 1) a0 a1) := by
  intro a0 a1 k
  have ih0 := foghornref19_Times.mono_l k
  unfold foghornref19_Times.f
  repeat' first
      | (with_reducible exact ih0 _ _ _ _)
      | (with_reducible exact LeO.refl _)
      | (with_reducible exact LeO.none _)
      | (with_reducible refine LeO.ite ?_ ?_)
      | (with_reducible refine LeO.bind ?_ (fun _ => ?_))
      | exact ih0 _ _ _ _
      | exact LeO.none _
      | refine LeO.ite ?_ ?_
      | refine LeO.bind ?_ (fun _ => ?_)

/-! ### foghornref19_Power: function 66 -/
def foghornref19_Power.l0 : Nat → Int → Int → Int → Option (Int)
  | 0, _, _, _ => none
  | k + 1, x0, x3, x4 => if x4 < x0 then ((foghornref19_Times.f k x3 2).bind fun t145 => (foghornref19_Power.l0 k x0 t145 (wrap64 (x4 + 1)))) else (some x3)
def foghornref19_Power.f (k : Nat) (a0 : Int) : Option (Int) := foghornref19_Power.l0 k a0 1 0
theorem foghornref19_Power.mono_l : ∀ k, (∀ y0 y1 y2, LeO (foghornref19_Power.l0 k y0 y1 y2) (foghornref19_Power.l0 (k + 1) y0 y1 y2))
  | 0 => fun _ _ _ r h => by simp [foghornref19_Power.l0] at h
  | k + 1 => by
    have ih0 := foghornref19_Power.mono_l k
    · intro y0 y1 y2
      unfold foghornref19_Power.l0
      repeat' first
      | (with_reducible exact ih0 _ _ _)
      | (with_reducible exact foghornref19_Times.mono _ _ _)
      | (with_reducible exact LeO.refl _)
      | (with_reducible exact LeO.none _)
      | (with_reducible refine LeO.ite ?_ ?_)
      | (with_reducible refine LeO.bind ?_ (fun _ => ?_))
      | exact ih0 _ _ _
      | exact foghornref19_Times.mono _ _ _
      | exact LeO.none _
      | refine LeO.ite ?_ ?_
      | refine LeO.bind ?_ (fun _ => ?_)
theorem foghornref19_Power.mono : ∀ a0 k, LeO (foghornref19_Power.f k a0) (foghornref19_Power.f (k + 1) a0) := by
  intro a0 k
  have ih0 := foghornref19_Power.mono_l k
  unfold foghornref19_Power.f
  repeat' first
      | (with_reducible exact ih0 _ _ _)
      | (with_reducible exact foghornref19_Times.mono _ _ _)
      | (with_reducible exact LeO.refl _)
      | (with_reducible exact LeO.none _)
      | (with_reducible refine LeO.ite ?_ ?_)
      | (with_reducible refine LeO.bind ?_ (fun _ => ?_))
      | exact ih0 _ _ _
      | exact foghornref19_Times.mono _ _ _
      | exact LeO.none _
      | refine LeO.ite ?_ ?_
      | refine LeO.bind ?_ (fun _ => ?_)

/-! ### foghornref19_Generator: function 16 -/
mutual
def foghornref19_Generator.l0 : Nat → Int → List Int → Int → Option (List Int × Int)
  | 0, _, _, _ => none
  | k + 1, x0, x4, x5 => if x5 < x0 then ((foghornref19_Power.f k x5).bind fun t150 => (if 0 ≤ (wrap64 ((x4.length : Int) + 1)) then (if (wrap64 ((x4.length : Int) + 1) : Int).toNat ≤ 281474976710656 then (foghornref19_Generator.l1 k x0 x4 x5 t150 (List.replicate (wrap64 ((x4.length : Int) + 1) : Int).toNat 0) 0) else (none)) else (none))) else (some (x4, 0))
def foghornref19_Generator.l1 : Nat → Int → List Int → Int → Int → List Int → Int → Option (List Int × Int)
  | 0, _, _, _, _, _, _ => none
  | k + 1, x0, x4, x5, x6, x7, x8 => if x8 < (x4.length : Int) then (if 0 ≤ (wrap64 (x8 + 1)) then (if (wrap64 (x8 + 1)) < (x7.length : Int) then (if 0 ≤ x8 then ((some (x7.set ((wrap64 (x8 + 1)) : Int).toNat (Go.bits .xor .u8 (rd x7 (wrap64 (x8 + 1))) (rd x4 x8)) : List Int)).bind fun y156 => (if x8 < (x7.length : Int) then ((foghornref19_Times.f k (rd x4 x8) x6).bind fun t159 => (foghornref19_Generator.l1 k x0 x4 x5 x6 (y156.set (x8 : Int).toNat (Go.bits .xor .u8 (rd y156 x8) t159)) (wrap64 (x8 + 1)))) else (none))) else (none)) else (none)) else (none)) else (foghornref19_Generator.l0 k x0 x7 (wrap64 (x5 + 1)))
end
def foghornref19_Generator.f (k : Nat) (a0 : Int) : Option (List Int × Int) := (foghornref19_Check.f (wrap64 (a0 + 1)) a0).bind fun t146 => (if t146 = 0 then (foghornref19_Generator.l0 k a0 (([1] : List Int)) 0) else (some (([] : List Int), 1)))
theorem foghornref19_Generator.mono_l : ∀ k, (∀ y0 y1 y2, LeO (foghornref19_Generator.l0 k y0 y1 y2) (foghornref19_Generator.l0 (k + 1) y0 y1 y2)) ∧ (∀ y0 y1 y2 y3 y4 y5, LeO (foghornref19_Generator.l1 k y0 y1 y2 y3 y4 y5) (foghornref19_Generator.l1 (k + 1) y0 y1 y2 y3 y4 y5))
  | 0 => ⟨fun _ _ _ r h => by simp [foghornref19_Generator.l0] at h, fun _ _ _ _ _ _ r h => by simp [foghornref19_Generator.l1] at h⟩
  | k + 1 => by
    obtain ⟨ih0, ih1⟩ := foghornref19_Generator.mono_l k
    refine ⟨?_, ?_⟩
    · intro y0 y1 y2
      unfold foghornref19_Generator.l0
      repeat' first
      | (with_reducible exact ih0 _ _ _)
      | (with_reducible exact ih1 _ _ _ _ _ _)
      | (with_reducible exact foghornref19_Power.mono _ _)
      | (with_reducible exact foghornref19_Times.mono _ _ _)
      | (with_reducible exact LeO.refl _)
      | (with_reducible exact LeO.none _)
      | (with_reducible refine LeO.ite ?_ ?_)
      | (with_reducible refine LeO.bind ?_ (fun _ => ?_))
      | exact ih0 _ _ _
      | exact ih1 _ _ _ _ _ _
      | exact foghornref19_Power.mono _ _
      | exact foghornref19_Times.mono _ _ _
      | exact LeO.none _
      | refine LeO.ite ?_ ?_
      | refine LeO.bind ?_ (fun _ => ?_)
    · intro y0 y1 y2 y3 y4 y5
      unfold foghornref19_Generator.l1
      repeat' first
      | (with_reducible exact ih0 _ _ _)
      | (with_reducible exact ih1 _ _ _ _ _ _)
      | (with_reducible exact foghornref19_Power.mono _ _)
      | (with_reducible exact foghornref19_Times.mono _ _ _)
      | (with_reducible exact LeO.refl _)
      | (with_reducible exact LeO.none _)
      | (with_reducible refine LeO.ite ?_ ?_)
      | (with_reducible refine LeO.bind ?_ (fun _ => ?_))
      | exact ih0 _ _ _
      | exact ih1 _ _ _ _ _ _
      | exact foghornref19_Power.mono _ _
      | exact foghornref19_Times.mono _ _ _
      | exact LeO.none _
      | refine LeO.ite ?_ ?_
      | refine LeO.bind ?_ (fun _ => ?_)
theorem foghornref19_Generator.mono : ∀ a0 k, LeO (foghornref19_Generator.f k a0) (foghornref19_Generator.f (k + 1) a0) := by
  intro a0 k
  obtain ⟨ih0, ih1⟩ := foghornref19_Generator.mono_l k
  unfold foghornref19_Generator.f
  repeat' first
      | (with_reducible exact ih0 _ _ _)
      | (with_reducible exact ih1 _ _ _ _ _ _)
      | (with_reducible exact foghornref19_Power.mono _ _)
      | (with_reducible exact foghornref19_Times.mono _ _ _)
      | (with_reducible exact LeO.refl _)
      | (with_reducible exact LeO.none _)
      | (with_reducible refine LeO.ite ?_ ?_)
      | (with_reducible refine LeO.bind ?_ (fun _ => ?_))
      | exact ih0 _ _ _
      | exact ih1 _ _ _ _ _ _
      | exact foghornref19_Power.mono _ _
      | exact foghornref19_Times.mono _ _ _
      | exact LeO.none _
      | refine LeO.ite ?_ ?_
      | refine LeO.bind ?_ (fun _ => ?_)
def foghornref19_Generator.T12 : Bool × List (List Nat × List Nat) := (true, [([], []), ([], []), ([1], [1]), ([], []), ([], []), ([4], [4]), ([3, 5], [3, 5]), ([6], [6]), ([], []), ([], []), ([8, 9], [8, 9]), ([10], [10]), ([7, 11], [7, 11]), ([0, 2, 0, 1, 2, 3, 4, 5, 6, 7, 8, 9, 10, 11, 12], [0, 2]), ([13, 12, 0, 1, 2, 3, 4, 5, 6, 7, 8, 9, 10, 11, 12], [12, 13])])
def foghornref19_Generator.B12 : List Nat := [0, 0, 2, 0, 0, 16, 56, 120, 0, 0, 768, 1792, 4088, 8191, 16383]
theorem foghornref19_Generator.tab12 : rtab .any (opsOf Try.f16 12) = foghornref19_Generator.T12 := by kernel_rfl
theorem foghornref19_Generator.bits12 : waitsOk foghornref19_Generator.T12.2 foghornref19_Generator.B12 = true := by kernel_rfl
def foghornref19_Generator.T13 : Bool × List (List Nat × List Nat) := (true, [([], []), ([], []), ([], []), ([], []), ([2, 3], [2, 3]), ([4], [4]), ([], []), ([], []), ([6, 7], [6, 7]), ([8], [8]), ([], []), ([9, 10], [9, 10]), ([5, 11], [5, 11]), ([0, 1, 0, 1, 2, 3, 4, 5, 6, 7, 8, 9, 10, 11, 12], [0, 1]), ([13, 12, 11, 0, 1, 2, 3, 4, 5, 6, 7, 8, 9, 10, 11, 12], [12, 13])])
def foghornref19_Generator.B13 : List Nat := [0, 0, 0, 0, 12, 28, 0, 0, 192, 448, 0, 1984, 4092, 8191, 16383]
theorem foghornref19_Generator.tab13 : rtab .any (opsOf Try.f16 13) = foghornref19_Generator.T13 := by kernel_rfl
theorem foghornref19_Generator.bits13 : waitsOk foghornref19_Generator.T13.2 foghornref19_Generator.B13 = true := by kernel_rfl

/-! ### reed_Check: function 17 -/
def reed_Check.f (a0 : Int) (a1 : Int) : Option (Int) := (reed_checks.f a1).bind fun t161 => (if t161 = true then (if a0 ≤ a1 then (some 1) else (if a0 > 255 then (some 1) else (some 0))) else (some 1))

/-! ### foghornlaw19_sameBytes: function 19 -/
def foghornlaw19_sameBytes.l0 : Nat → List Int → List Int → Int → Option (Bool)
  | 0, _, _, _ => none
  | k + 1, x0, x1, x5 => if x5 < (x0.length : Int) then (if 0 ≤ x5 then (if x5 < (x1.length : Int) then (if (rd x0 x5) = (rd x1 x5) then (foghornlaw19_sameBytes.l0 k x0 x1 (wrap64 (x5 + 1))) else (some false)) else (none)) else (none)) else (some true)
def foghornlaw19_sameBytes.f (k : Nat) (l0 : List Int) (l1 : List Int) : Option (Bool) := if (l0.length : Int) = (l1.length : Int) then (foghornlaw19_sameBytes.l0 k l0 l1 0) else (some false)
theorem foghornlaw19_sameBytes.mono_l : ∀ k, (∀ y0 y1 y2, LeO (foghornlaw19_sameBytes.l0 k y0 y1 y2) (foghornlaw19_sameBytes.l0 (k + 1) y0 y1 y2))
  | 0 => fun _ _ _ r h => by simp [foghornlaw19_sameBytes.l0] at h
  | k + 1 => by
    have ih0 := foghornlaw19_sameBytes.mono_l k
    · intro y0 y1 y2
      unfold foghornlaw19_sameBytes.l0
      repeat' first
      | (with_reducible exact ih0 _ _ _)
      | (with_reducible exact LeO.refl _)
      | (with_reducible exact LeO.none _)
      | (with_reducible refine LeO.ite ?_ ?_)
      | (with_reducible refine LeO.bind ?_ (fun _ => ?_))
      | exact ih0 _ _ _
      | exact LeO.none _
      | refine LeO.ite ?_ ?_
      | refine LeO.bind ?_ (fun _ => ?_)
theorem foghornlaw19_sameBytes.mono : ∀ a0 a1 k, LeO (foghornlaw19_sameBytes.f k a0 a1) (foghornlaw19_sameBytes.f (k + 1) a0 a1) := by
  intro a0 a1 k
  have ih0 := foghornlaw19_sameBytes.mono_l k
  unfold foghornlaw19_sameBytes.f
  repeat' first
      | (with_reducible exact ih0 _ _ _)
      | (with_reducible exact LeO.refl _)
      | (with_reducible exact LeO.none _)
      | (with_reducible refine LeO.ite ?_ ?_)
      | (with_reducible refine LeO.bind ?_ (fun _ => ?_))
      | exact ih0 _ _ _
      | exact LeO.none _
      | refine LeO.ite ?_ ?_
      | refine LeO.bind ?_ (fun _ => ?_)

/-! ### foghornlaw19_ReedChecks: function 3 -/
mutual
def foghornlaw19_ReedChecks.j0 : Nat → Int → List Int → List Int → List Int → Bool → Option (Bool)
  | 0, _, _, _, _, _ => none
  | k + 1, x1, x5, x7, x9, x46 => if x46 = true then (some false) else (foghornlaw19_ReedChecks.l0 k x1 x5 x7 x9 0)
def foghornlaw19_ReedChecks.l0 : Nat → Int → List Int → List Int → List Int → Int → Option (Bool)
  | 0, _, _, _, _, _ => none
  | k + 1, x1, x5, x7, x9, x11 => if x11 < (x5.length : Int) then (if 0 ≤ x11 then (foghornlaw19_ReedChecks.l0 k x1 (x5.set (x11 : Int).toNat 77) x7 x9 (wrap64 (x11 + 1))) else (none)) else ((reed_Generator.f k x1).bind fun bt180 => ((foghornlaw19_sameBytes.f k x9 x7).bind fun t184 => (if t184 = true then ((foghornlaw19_sameBytes.f k bt180.1 x7).bind fun t185 => (some t185)) else (some false))))
end
def foghornlaw19_ReedChecks.f (k : Nat) (a0 : Int) (a1 : Int) : Option (Bool) := (reed_Generator.f k a1).bind fun bt164 => ((foghornref19_Generator.f k a1).bind fun bt168 => ((reed_Generator.f k a1).bind fun bt172 => ((reed_Check.f a0 a1).bind fun t176 => ((foghornref19_Check.f a0 a1).bind fun t177 => (if t176 = t177 then ((foghornlaw19_sameBytes.f k bt164.1 bt168.1).bind fun t178 => (if t178 = true then (foghornlaw19_ReedChecks.j0 k a1 bt164.1 bt168.1 bt172.1 (bt164.2 != bt168.2)) else (foghornlaw19_ReedChecks.j0 k a1 bt164.1 bt168.1 bt172.1 true))) else (foghornlaw19_ReedChecks.j0 k a1 bt164.1 bt168.1 bt172.1 true))))))
theorem foghornlaw19_ReedChecks.mono_l : ∀ k, (∀ y0 y1 y2 y3 y4, LeO (foghornlaw19_ReedChecks.j0 k y0 y1 y2 y3 y4) (foghornlaw19_ReedChecks.j0 (k + 1) y0 y1 y2 y3 y4)) ∧ (∀ y0 y1 y2 y3 y4, LeO (foghornlaw19_ReedChecks.l0 k y0 y1 y2 y3 y4) (foghornlaw19_ReedChecks.l0 (k + 1) y0 y1 y2 y3 y4))
  | 0 => ⟨fun _ _ _ _ _ r h => by simp [foghornlaw19_ReedChecks.j0] at h, fun _ _ _ _ _ r h => by simp [foghornlaw19_ReedChecks.l0] at h⟩
  | k + 1 => by
    obtain ⟨ih0, ih1⟩ := foghornlaw19_ReedChecks.mono_l k
    refine ⟨?_, ?_⟩
    · intro y0 y1 y2 y3 y4
      unfold foghornlaw19_ReedChecks.j0
      repeat' first
      | (with_reducible exact ih0 _ _ _ _ _)
      | (with_reducible exact ih1 _ _ _ _ _)
      | (with_reducible exact foghornlaw19_sameBytes.mono _ _ _)
      | (with_reducible exact foghornref19_Generator.mono _ _)
      | (with_reducible exact reed_Generator.mono _ _)
      | (with_reducible exact LeO.refl _)
      | (with_reducible exact LeO.none _)
      | (with_reducible refine LeO.ite ?_ ?_)
      | (with_reducible refine LeO.bind ?_ (fun _ => ?_))
      | exact ih0 _ _ _ _ _
      | exact ih1 _ _ _ _ _
      | exact foghornlaw19_sameBytes.mono _ _ _
      | exact foghornref19_Generator.mono _ _
      | exact reed_Generator.mono _ _
      | exact LeO.none _
      | refine LeO.ite ?_ ?_
      | refine LeO.bind ?_ (fun _ => ?_)
    · intro y0 y1 y2 y3 y4
      unfold foghornlaw19_ReedChecks.l0
      repeat' first
      | (with_reducible exact ih0 _ _ _ _ _)
      | (with_reducible exact ih1 _ _ _ _ _)
      | (with_reducible exact foghornlaw19_sameBytes.mono _ _ _)
      | (with_reducible exact foghornref19_Generator.mono _ _)
      | (with_reducible exact reed_Generator.mono _ _)
      | (with_reducible exact LeO.refl _)
      | (with_reducible exact LeO.none _)
      | (with_reducible refine LeO.ite ?_ ?_)
      | (with_reducible refine LeO.bind ?_ (fun _ => ?_))
      | exact ih0 _ _ _ _ _
      | exact ih1 _ _ _ _ _
      | exact foghornlaw19_sameBytes.mono _ _ _
      | exact foghornref19_Generator.mono _ _
      | exact reed_Generator.mono _ _
      | exact LeO.none _
      | refine LeO.ite ?_ ?_
      | refine LeO.bind ?_ (fun _ => ?_)
theorem foghornlaw19_ReedChecks.mono : ∀ a0 a1 k, LeO (foghornlaw19_ReedChecks.f k a0 a1) (foghornlaw19_ReedChecks.f (k + 1) a0 a1) := by
  intro a0 a1 k
  obtain ⟨ih0, ih1⟩ := foghornlaw19_ReedChecks.mono_l k
  unfold foghornlaw19_ReedChecks.f
  repeat' first
      | (with_reducible exact ih0 _ _ _ _ _)
      | (with_reducible exact ih1 _ _ _ _ _)
      | (with_reducible exact foghornlaw19_sameBytes.mono _ _ _)
      | (with_reducible exact foghornref19_Generator.mono _ _)
      | (with_reducible exact reed_Generator.mono _ _)
      | (with_reducible exact LeO.refl _)
      | (with_reducible exact LeO.none _)
      | (with_reducible refine LeO.ite ?_ ?_)
      | (with_reducible refine LeO.bind ?_ (fun _ => ?_))
      | exact ih0 _ _ _ _ _
      | exact ih1 _ _ _ _ _
      | exact foghornlaw19_sameBytes.mono _ _ _
      | exact foghornref19_Generator.mono _ _
      | exact reed_Generator.mono _ _
      | exact LeO.none _
      | refine LeO.ite ?_ ?_
      | refine LeO.bind ?_ (fun _ => ?_)
/-- THE ONE PURE STATEMENT of foghornlaw19_ReedChecks: yours. -/
def foghornlaw19_ReedChecks.Pure : Prop := ∀ (a0 : Int) (a1 : Int), (Lit.int .i64 a0).wf = true → (Lit.int .i64 a1).wf = true → ∃ k, foghornlaw19_ReedChecks.f k a0 a1 = some true

/-! ### field_Over: function 20 -/
def field_Over.f (k : Nat) (a0 : Int) (a1 : Int) : Option (Int × Int) := if a1 = 0 then (some (0, 6)) else ((field_raised.f k a1 254).bind fun t186 => ((field_Times.f k a0 t186).bind fun t187 => (some (t187, 0))))
theorem field_Over.mono : ∀ a0 a1 k, LeO (field_Over.f k a0 a1) (field_Over.f (k + 1) a0 a1) := by
  intro a0 a1 k
  unfold field_Over.f
  repeat' first
      | (with_reducible exact field_Times.mono _ _ _)
      | (with_reducible exact field_raised.mono _ _ _)
      | (with_reducible exact LeO.refl _)
      | (with_reducible exact LeO.none _)
      | (with_reducible refine LeO.ite ?_ ?_)
      | (with_reducible refine LeO.bind ?_ (fun _ => ?_))
      | exact field_Times.mono _ _ _
      | exact field_raised.mono _ _ _
      | exact LeO.none _
      | refine LeO.ite ?_ ?_
      | refine LeO.bind ?_ (fun _ => ?_)

/-! ### foghornref18_Times: function 29 -/
mutual
def foghornref18_Times.l0 : Nat → Int → Int → Int → Int → Option (Int)
  | 0, _, _, _, _ => none
  | k + 1, x0, x1, x5, x6 => if x6 < 8 then (foghornref18_Times.l1 k x0 x1 x5 x6 0) else (foghornref18_Times.l2 k x5 14)
def foghornref18_Times.l1 : Nat → Int → Int → Int → Int → Int → Option (Int)
  | 0, _, _, _, _, _ => none
  | k + 1, x0, x1, x5, x6, x7 => if x7 < 8 then (if 0 ≤ x6 then (if (Go.bits .and .u8 (shr .u8 x0 x6) 1) = 1 then (if 0 ≤ x7 then (if (Go.bits .and .u8 (shr .u8 x1 x7) 1) = 1 then (if 0 ≤ (wrap64 (x6 + x7)) then (foghornref18_Times.l1 k x0 x1 (Go.bits .xor .i64 x5 (shl .i64 1 (wrap64 (x6 + x7)))) x6 (wrap64 (x7 + 1))) else (none)) else (foghornref18_Times.l1 k x0 x1 x5 x6 (wrap64 (x7 + 1)))) else (none)) else (foghornref18_Times.l1 k x0 x1 x5 x6 (wrap64 (x7 + 1)))) else (none)) else (foghornref18_Times.l0 k x0 x1 x5 (wrap64 (x6 + 1)))
def foghornref18_Times.l2 : Nat → Int → Int → Option (Int)
  | 0, _, _ => none
  | k + 1, x5, x8 => if x8 ≥ 8 then (if 0 ≤ x8 then (if (Go.bits .and .i64 (shr .i64 x5 x8) 1) = 1 then (if 0 ≤ (wrap64 (x8 - 8)) then (foghornref18_Times.l2 k (Go.bits .xor .i64 x5 (shl .i64 285 (wrap64 (x8 - 8)))) (wrap64 (x8 - 1))) else (none)) else (foghornref18_Times.l2 k x5 (wrap64 (x8 - 1)))) else (none)) else (some ((x5) % 256))
end
def foghornref18_Times.f (k : Nat) (a0 : Int) (a1 : Int) : Option (Int) := foghornref18_Times.l0 k a0 a1 0 0
theorem foghornref18_Times.mono_l : ∀ k, (∀ y0 y1 y2 y3, LeO (foghornref18_Times.l0 k y0 y1 y2 y3) (foghornref18_Times.l0 (k + 1) y0 y1 y2 y3)) ∧ (∀ y0 y1 y2 y3 y4, LeO (foghornref18_Times.l1 k y0 y1 y2 y3 y4) (foghornref18_Times.l1 (k + 1) y0 y1 y2 y3 y4)) ∧ (∀ y0 y1, LeO (foghornref18_Times.l2 k y0 y1) (foghornref18_Times.l2 (k + 1) y0 y1))
  | 0 => ⟨fun _ _ _ _ r h => by simp [foghornref18_Times.l0] at h, fun _ _ _ _ _ r h => by simp [foghornref18_Times.l1] at h, fun _ _ r h => by simp [foghornref18_Times.l2] at h⟩
  | k + 1 => by
    obtain ⟨ih0, ih1, ih2⟩ := foghornref18_Times.mono_l k
    refine ⟨?_, ?_, ?_⟩
    · intro y0 y1 y2 y3
      unfold foghornref18_Times.l0
      repeat' first
      | (with_reducible exact ih0 _ _ _ _)
      | (with_reducible exact ih1 _ _ _ _ _)
      | (with_reducible exact ih2 _ _)
      | (with_reducible exact LeO.refl _)
      | (with_reducible exact LeO.none _)
      | (with_reducible refine LeO.ite ?_ ?_)
      | (with_reducible refine LeO.bind ?_ (fun _ => ?_))
      | exact ih0 _ _ _ _
      | exact ih1 _ _ _ _ _
      | exact ih2 _ _
      | exact LeO.none _
      | refine LeO.ite ?_ ?_
      | refine LeO.bind ?_ (fun _ => ?_)
    · intro y0 y1 y2 y3 y4
      unfold foghornref18_Times.l1
      repeat' first
      | (with_reducible exact ih0 _ _ _ _)
      | (with_reducible exact ih1 _ _ _ _ _)
      | (with_reducible exact ih2 _ _)
      | (with_reducible exact LeO.refl _)
      | (with_reducible exact LeO.none _)
      | (with_reducible refine LeO.ite ?_ ?_)
      | (with_reducible refine LeO.bind ?_ (fun _ => ?_))
      | exact ih0 _ _ _ _
      | exact ih1 _ _ _ _ _
      | exact ih2 _ _
      | exact LeO.none _
      | refine LeO.ite ?_ ?_
      | refine LeO.bind ?_ (fun _ => ?_)
    · intro y0 y1
      unfold foghornref18_Times.l2
      repeat' first
      | (with_reducible exact ih0 _ _ _ _)
      | (with_reducible exact ih1 _ _ _ _ _)
      | (with_reducible exact ih2 _ _)
      | (with_reducible exact LeO.refl _)
      | (with_reducible exact LeO.none _)
      | (with_reducible refine LeO.ite ?_ ?_)
      | (with_reducible refine LeO.bind ?_ (fun _ => ?_))
      | exact ih0 _ _ _ _
      | exact ih1 _ _ _ _ _
      | exact ih2 _ _
      | exact LeO.none _
      | refine LeO.ite ?_ ?_
      | refine LeO.bind ?_ (fun _ => ?_)
theorem foghornref18_Times.mono : ∀ a0 a1 k, LeO (foghornref18_Times.f k a0 a1) (foghornref18_Times.f (k + 1) a0 a1) := by
  intro a0 a1 k
  obtain ⟨ih0, ih1, ih2⟩ := foghornref18_Times.mono_l k
  unfold foghornref18_Times.f
  repeat' first
      | (with_reducible exact ih0 _ _ _ _)
      | (with_reducible exact ih1 _ _ _ _ _)
      | (with_reducible exact ih2 _ _)
      | (with_reducible exact LeO.refl _)
      | (with_reducible exact LeO.none _)
      | (with_reducible refine LeO.ite ?_ ?_)
      | (with_reducible refine LeO.bind ?_ (fun _ => ?_))
      | exact ih0 _ _ _ _
      | exact ih1 _ _ _ _ _
      | exact ih2 _ _
      | exact LeO.none _
      | refine LeO.ite ?_ ?_
      | refine LeO.bind ?_ (fun _ => ?_)

/-! ### foghornref18_Over: function 21 -/
def foghornref18_Over.l0 : Nat → Int → Int → Int → Option (Int × Int)
  | 0, _, _, _ => none
  | k + 1, x0, x1, x6 => if x6 < 256 then ((foghornref18_Times.f k ((x6) % 256) x1).bind fun t188 => (if t188 = x0 then (some ((x6) % 256, 0)) else (foghornref18_Over.l0 k x0 x1 (wrap64 (x6 + 1))))) else (some (0, 6))
def foghornref18_Over.f (k : Nat) (a0 : Int) (a1 : Int) : Option (Int × Int) := if a1 = 0 then (some (0, 6)) else (foghornref18_Over.l0 k a0 a1 0)
theorem foghornref18_Over.mono_l : ∀ k, (∀ y0 y1 y2, LeO (foghornref18_Over.l0 k y0 y1 y2) (foghornref18_Over.l0 (k + 1) y0 y1 y2))
  | 0 => fun _ _ _ r h => by simp [foghornref18_Over.l0] at h
  | k + 1 => by
    have ih0 := foghornref18_Over.mono_l k
    · intro y0 y1 y2
      unfold foghornref18_Over.l0
      repeat' first
      | (with_reducible exact ih0 _ _ _)
      | (with_reducible exact foghornref18_Times.mono _ _ _)
      | (with_reducible exact LeO.refl _)
      | (with_reducible exact LeO.none _)
      | (with_reducible refine LeO.ite ?_ ?_)
      | (with_reducible refine LeO.bind ?_ (fun _ => ?_))
      | exact ih0 _ _ _
      | exact foghornref18_Times.mono _ _ _
      | exact LeO.none _
      | refine LeO.ite ?_ ?_
      | refine LeO.bind ?_ (fun _ => ?_)
theorem foghornref18_Over.mono : ∀ a0 a1 k, LeO (foghornref18_Over.f k a0 a1) (foghornref18_Over.f (k + 1) a0 a1) := by
  intro a0 a1 k
  have ih0 := foghornref18_Over.mono_l k
  unfold foghornref18_Over.f
  repeat' first
      | (with_reducible exact ih0 _ _ _)
      | (with_reducible exact foghornref18_Times.mono _ _ _)
      | (with_reducible exact LeO.refl _)
      | (with_reducible exact LeO.none _)
      | (with_reducible refine LeO.ite ?_ ?_)
      | (with_reducible refine LeO.bind ?_ (fun _ => ?_))
      | exact ih0 _ _ _
      | exact foghornref18_Times.mono _ _ _
      | exact LeO.none _
      | refine LeO.ite ?_ ?_
      | refine LeO.bind ?_ (fun _ => ?_)

/-! ### field_Power: function 22 -/
def field_Power.j0 : Nat → Int → Int → Bool → Option (Int × Int)
  | 0, _, _, _ => none
  | k + 1, x0, x1, x6 => if x6 = true then (some (0, 6)) else (if x0 = 0 then (if x1 > 0 then (some (0, 0)) else ((field_raised.f k x0 (Int.tmod (wrap64 ((Int.tmod x1 255) + 255)) 255)).bind fun t189 => (some (t189, 0)))) else ((field_raised.f k x0 (Int.tmod (wrap64 ((Int.tmod x1 255) + 255)) 255)).bind fun t190 => (some (t190, 0))))
def field_Power.f (k : Nat) (a0 : Int) (a1 : Int) : Option (Int × Int) := if a0 = 0 then (field_Power.j0 k a0 a1 (decide (a1 < 0))) else (field_Power.j0 k a0 a1 false)
theorem field_Power.mono_l : ∀ k, (∀ y0 y1 y2, LeO (field_Power.j0 k y0 y1 y2) (field_Power.j0 (k + 1) y0 y1 y2))
  | 0 => fun _ _ _ r h => by simp [field_Power.j0] at h
  | k + 1 => by
    have ih0 := field_Power.mono_l k
    · intro y0 y1 y2
      unfold field_Power.j0
      repeat' first
      | (with_reducible exact ih0 _ _ _)
      | (with_reducible exact field_raised.mono _ _ _)
      | (with_reducible exact LeO.refl _)
      | (with_reducible exact LeO.none _)
      | (with_reducible refine LeO.ite ?_ ?_)
      | (with_reducible refine LeO.bind ?_ (fun _ => ?_))
      | exact ih0 _ _ _
      | exact field_raised.mono _ _ _
      | exact LeO.none _
      | refine LeO.ite ?_ ?_
      | refine LeO.bind ?_ (fun _ => ?_)
theorem field_Power.mono : ∀ a0 a1 k, LeO (field_Power.f k a0 a1) (field_Power.f (k + 1) a0 a1) := by
  intro a0 a1 k
  have ih0 := field_Power.mono_l k
  unfold field_Power.f
  repeat' first
      | (with_reducible exact ih0 _ _ _)
      | (with_reducible exact field_raised.mono _ _ _)
      | (with_reducible exact LeO.refl _)
      | (with_reducible exact LeO.none _)
      | (with_reducible refine LeO.ite ?_ ?_)
      | (with_reducible refine LeO.bind ?_ (fun _ => ?_))
      | exact ih0 _ _ _
      | exact field_raised.mono _ _ _
      | exact LeO.none _
      | refine LeO.ite ?_ ?_
      | refine LeO.bind ?_ (fun _ => ?_)

/-! ### foghornref18_Power: function 23 -/
mutual
def foghornref18_Power.j0 : Nat → Int → Int → Option (Int × Int)
  | 0, _, _ => none
  | k + 1, x0, x1 => foghornref18_Power.l0 k x0 x1 1 0
def foghornref18_Power.l0 : Nat → Int → Int → Int → Int → Option (Int × Int)
  | 0, _, _, _, _ => none
  | k + 1, x0, x1, x6, x7 => if x7 < x1 then ((foghornref18_Times.f k x6 x0).bind fun t191 => (foghornref18_Power.l0 k x0 x1 t191 (wrap64 (x7 + 1)))) else (some (x6, 0))
end
def foghornref18_Power.f (k : Nat) (a0 : Int) (a1 : Int) : Option (Int × Int) := if a0 = 0 then (if a1 < 0 then (some (0, 6)) else (if a1 = 0 then (some (1, 0)) else (some (0, 0)))) else (if (Int.tmod a1 255) < 0 then (foghornref18_Power.j0 k a0 (wrap64 ((Int.tmod a1 255) + 255))) else (foghornref18_Power.j0 k a0 (Int.tmod a1 255)))
theorem foghornref18_Power.mono_l : ∀ k, (∀ y0 y1, LeO (foghornref18_Power.j0 k y0 y1) (foghornref18_Power.j0 (k + 1) y0 y1)) ∧ (∀ y0 y1 y2 y3, LeO (foghornref18_Power.l0 k y0 y1 y2 y3) (foghornref18_Power.l0 (k + 1) y0 y1 y2 y3))
  | 0 => ⟨fun _ _ r h => by simp [foghornref18_Power.j0] at h, fun _ _ _ _ r h => by simp [foghornref18_Power.l0] at h⟩
  | k + 1 => by
    obtain ⟨ih0, ih1⟩ := foghornref18_Power.mono_l k
    refine ⟨?_, ?_⟩
    · intro y0 y1
      unfold foghornref18_Power.j0
      repeat' first
      | (with_reducible exact ih0 _ _)
      | (with_reducible exact ih1 _ _ _ _)
      | (with_reducible exact foghornref18_Times.mono _ _ _)
      | (with_reducible exact LeO.refl _)
      | (with_reducible exact LeO.none _)
      | (with_reducible refine LeO.ite ?_ ?_)
      | (with_reducible refine LeO.bind ?_ (fun _ => ?_))
      | exact ih0 _ _
      | exact ih1 _ _ _ _
      | exact foghornref18_Times.mono _ _ _
      | exact LeO.none _
      | refine LeO.ite ?_ ?_
      | refine LeO.bind ?_ (fun _ => ?_)
    · intro y0 y1 y2 y3
      unfold foghornref18_Power.l0
      repeat' first
      | (with_reducible exact ih0 _ _)
      | (with_reducible exact ih1 _ _ _ _)
      | (with_reducible exact foghornref18_Times.mono _ _ _)
      | (with_reducible exact LeO.refl _)
      | (with_reducible exact LeO.none _)
      | (with_reducible refine LeO.ite ?_ ?_)
      | (with_reducible refine LeO.bind ?_ (fun _ => ?_))
      | exact ih0 _ _
      | exact ih1 _ _ _ _
      | exact foghornref18_Times.mono _ _ _
      | exact LeO.none _
      | refine LeO.ite ?_ ?_
      | refine LeO.bind ?_ (fun _ => ?_)
theorem foghornref18_Power.mono : ∀ a0 a1 k, LeO (foghornref18_Power.f k a0 a1) (foghornref18_Power.f (k + 1) a0 a1) := by
  intro a0 a1 k
  obtain ⟨ih0, ih1⟩ := foghornref18_Power.mono_l k
  unfold foghornref18_Power.f
  repeat' first
      | (with_reducible exact ih0 _ _)
      | (with_reducible exact ih1 _ _ _ _)
      | (with_reducible exact foghornref18_Times.mono _ _ _)
      | (with_reducible exact LeO.refl _)
      | (with_reducible exact LeO.none _)
      | (with_reducible refine LeO.ite ?_ ?_)
      | (with_reducible refine LeO.bind ?_ (fun _ => ?_))
      | exact ih0 _ _
      | exact ih1 _ _ _ _
      | exact foghornref18_Times.mono _ _ _
      | exact LeO.none _
      | refine LeO.ite ?_ ?_
      | refine LeO.bind ?_ (fun _ => ?_)

/-! ### field_Log: function 24 -/
def field_Log.l0 : Nat → Int → Int → Int → Option (Int × Int)
  | 0, _, _, _ => none
  | k + 1, x0, x4, x5 => if x5 = x0 then (some (x4, 0)) else ((field_Times.f k x5 2).bind fun t192 => (field_Log.l0 k x0 (wrap64 (x4 + 1)) t192))
def field_Log.f (k : Nat) (a0 : Int) : Option (Int × Int) := if a0 = 0 then (some (0, 6)) else (field_Log.l0 k a0 0 1)
theorem field_Log.mono_l : ∀ k, (∀ y0 y1 y2, LeO (field_Log.l0 k y0 y1 y2) (field_Log.l0 (k + 1) y0 y1 y2))
  | 0 => fun _ _ _ r h => by simp [field_Log.l0] at h
  | k + 1 => by
    have ih0 := field_Log.mono_l k
    · intro y0 y1 y2
      unfold field_Log.l0
      repeat' first
      | (with_reducible exact ih0 _ _ _)
      | (with_reducible exact field_Times.mono _ _ _)
      | (with_reducible exact LeO.refl _)
      | (with_reducible exact LeO.none _)
      | (with_reducible refine LeO.ite ?_ ?_)
      | (with_reducible refine LeO.bind ?_ (fun _ => ?_))
      | exact ih0 _ _ _
      | exact field_Times.mono _ _ _
      | exact LeO.none _
      | refine LeO.ite ?_ ?_
      | refine LeO.bind ?_ (fun _ => ?_)
theorem field_Log.mono : ∀ a0 k, LeO (field_Log.f k a0) (field_Log.f (k + 1) a0) := by
  intro a0 k
  have ih0 := field_Log.mono_l k
  unfold field_Log.f
  repeat' first
      | (with_reducible exact ih0 _ _ _)
      | (with_reducible exact field_Times.mono _ _ _)
      | (with_reducible exact LeO.refl _)
      | (with_reducible exact LeO.none _)
      | (with_reducible refine LeO.ite ?_ ?_)
      | (with_reducible refine LeO.bind ?_ (fun _ => ?_))
      | exact ih0 _ _ _
      | exact field_Times.mono _ _ _
      | exact LeO.none _
      | refine LeO.ite ?_ ?_
      | refine LeO.bind ?_ (fun _ => ?_)

/-! ### foghornref18_Log: function 25 -/
def foghornref18_Log.l0 : Nat → Int → Int → Int → Option (Int × Int)
  | 0, _, _, _ => none
  | k + 1, x0, x4, x5 => if x5 < 255 then (if x4 = x0 then (some (x5, 0)) else ((foghornref18_Times.f k x4 2).bind fun t193 => (foghornref18_Log.l0 k x0 t193 (wrap64 (x5 + 1))))) else (some (0, 6))
def foghornref18_Log.f (k : Nat) (a0 : Int) : Option (Int × Int) := foghornref18_Log.l0 k a0 1 0
theorem foghornref18_Log.mono_l : ∀ k, (∀ y0 y1 y2, LeO (foghornref18_Log.l0 k y0 y1 y2) (foghornref18_Log.l0 (k + 1) y0 y1 y2))
  | 0 => fun _ _ _ r h => by simp [foghornref18_Log.l0] at h
  | k + 1 => by
    have ih0 := foghornref18_Log.mono_l k
    · intro y0 y1 y2
      unfold foghornref18_Log.l0
      repeat' first
      | (with_reducible exact ih0 _ _ _)
      | (with_reducible exact foghornref18_Times.mono _ _ _)
      | (with_reducible exact LeO.refl _)
      | (with_reducible exact LeO.none _)
      | (with_reducible refine LeO.ite ?_ ?_)
      | (with_reducible refine LeO.bind ?_ (fun _ => ?_))
      | exact ih0 _ _ _
      | exact foghornref18_Times.mono _ _ _
      | exact LeO.none _
      | refine LeO.ite ?_ ?_
      | refine LeO.bind ?_ (fun _ => ?_)
theorem foghornref18_Log.mono : ∀ a0 k, LeO (foghornref18_Log.f k a0) (foghornref18_Log.f (k + 1) a0) := by
  intro a0 k
  have ih0 := foghornref18_Log.mono_l k
  unfold foghornref18_Log.f
  repeat' first
      | (with_reducible exact ih0 _ _ _)
      | (with_reducible exact foghornref18_Times.mono _ _ _)
      | (with_reducible exact LeO.refl _)
      | (with_reducible exact LeO.none _)
      | (with_reducible refine LeO.ite ?_ ?_)
      | (with_reducible refine LeO.bind ?_ (fun _ => ?_))
      | exact ih0 _ _ _
      | exact foghornref18_Times.mono _ _ _
      | exact LeO.none _
      | refine LeO.ite ?_ ?_
      | refine LeO.bind ?_ (fun _ => ?_)

/-! ### field_Plus: function 26 -/
def field_Plus.f (a0 : Int) (a1 : Int) : Option (Int) := some (Go.bits .xor .u8 a0 a1)

/-! ### foghornref18_Plus: function 27 -/
def foghornref18_Plus.f (a0 : Int) (a1 : Int) : Option (Int) := some (Go.bits .xor .u8 a0 a1)

/-! ### foghornref18_Exp: function 31 -/
def foghornref18_Exp.f (k : Nat) (a0 : Int) : Option (Int) := (foghornref18_Power.f k 2 a0).bind fun bt194 => (some bt194.1)
theorem foghornref18_Exp.mono : ∀ a0 k, LeO (foghornref18_Exp.f k a0) (foghornref18_Exp.f (k + 1) a0) := by
  intro a0 k
  unfold foghornref18_Exp.f
  repeat' first
      | (with_reducible exact foghornref18_Power.mono _ _ _)
      | (with_reducible exact LeO.refl _)
      | (with_reducible exact LeO.none _)
      | (with_reducible refine LeO.ite ?_ ?_)
      | (with_reducible refine LeO.bind ?_ (fun _ => ?_))
      | exact foghornref18_Power.mono _ _ _
      | exact LeO.none _
      | refine LeO.ite ?_ ?_
      | refine LeO.bind ?_ (fun _ => ?_)

/-! ### foghornref18_Same: function 35 -/
def foghornref18_Same.l0 : Nat → List Int → List Int → Int → Option (Bool)
  | 0, _, _, _ => none
  | k + 1, x0, x1, x5 => if x5 < (x0.length : Int) then (if 0 ≤ x5 then (if x5 < (x1.length : Int) then (if (rd x0 x5) = (rd x1 x5) then (foghornref18_Same.l0 k x0 x1 (wrap64 (x5 + 1))) else (some false)) else (none)) else (none)) else (some true)
def foghornref18_Same.f (k : Nat) (l0 : List Int) (l1 : List Int) : Option (Bool) := if (l0.length : Int) = (l1.length : Int) then (foghornref18_Same.l0 k l0 l1 0) else (some false)
theorem foghornref18_Same.mono_l : ∀ k, (∀ y0 y1 y2, LeO (foghornref18_Same.l0 k y0 y1 y2) (foghornref18_Same.l0 (k + 1) y0 y1 y2))
  | 0 => fun _ _ _ r h => by simp [foghornref18_Same.l0] at h
  | k + 1 => by
    have ih0 := foghornref18_Same.mono_l k
    · intro y0 y1 y2
      unfold foghornref18_Same.l0
      repeat' first
      | (with_reducible exact ih0 _ _ _)
      | (with_reducible exact LeO.refl _)
      | (with_reducible exact LeO.none _)
      | (with_reducible refine LeO.ite ?_ ?_)
      | (with_reducible refine LeO.bind ?_ (fun _ => ?_))
      | exact ih0 _ _ _
      | exact LeO.none _
      | refine LeO.ite ?_ ?_
      | refine LeO.bind ?_ (fun _ => ?_)
theorem foghornref18_Same.mono : ∀ a0 a1 k, LeO (foghornref18_Same.f k a0 a1) (foghornref18_Same.f (k + 1) a0 a1) := by
  intro a0 a1 k
  have ih0 := foghornref18_Same.mono_l k
  unfold foghornref18_Same.f
  repeat' first
      | (with_reducible exact ih0 _ _ _)
      | (with_reducible exact LeO.refl _)
      | (with_reducible exact LeO.none _)
      | (with_reducible refine LeO.ite ?_ ?_)
      | (with_reducible refine LeO.bind ?_ (fun _ => ?_))
      | exact ih0 _ _ _
      | exact LeO.none _
      | refine LeO.ite ?_ ?_
      | refine LeO.bind ?_ (fun _ => ?_)

/-! ### field_long: function 77 -/
def field_long.f (l0 : List (List Int)) : Option (Bool) := some (l0.any fun l => decide ((l.length : Int) > 512))

/-! ### field_Product: function 50 -/
def field_Product.f (k : Nat) (l0 : List Int) (l1 : List Int) : Option (List Int × Int) := (field_long.f (([l0, l1] : List (List Int)))).bind fun t201 => (if t201 = true then (some (([] : List Int), 1)) else ((field_poly.f k l0).bind fun t202 => ((field_poly.f k l1).bind fun t205 => (if (mn (t202.length : Int) (t205.length : Int)) > 0 then (if (wrap64 ((t202.length : Int) + (t205.length : Int))) > 513 then (some (([] : List Int), 1)) else ((field_product.f k t202 t205).bind fun t208 => (some (t208, 0)))) else ((field_product.f k t202 t205).bind fun t211 => (some (t211, 0)))))))
theorem field_Product.mono : ∀ a0 a1 k, LeO (field_Product.f k a0 a1) (field_Product.f (k + 1) a0 a1) := by
  intro a0 a1 k
  unfold field_Product.f
  repeat' first
      | (with_reducible exact field_poly.mono _ _)
      | (with_reducible exact field_product.mono _ _ _)
      | (with_reducible exact LeO.refl _)
      | (with_reducible exact LeO.none _)
      | (with_reducible refine LeO.ite ?_ ?_)
      | (with_reducible refine LeO.bind ?_ (fun _ => ?_))
      | exact field_poly.mono _ _
      | exact field_product.mono _ _ _
      | exact LeO.none _
      | refine LeO.ite ?_ ?_
      | refine LeO.bind ?_ (fun _ => ?_)

/-! ### foghornlaw18_awake: function 32 -/
def foghornlaw18_awake.f (k : Nat)  : Option (Bool) := (field_Product.f k (([1, 1] : List Int)) (([1, 1] : List Int))).bind fun bt220 => ((field_Times.f k 2 128).bind fun t224 => (if t224 = 29 then (if bt220.2 = 0 then ((foghornref18_Same.f k bt220.1 (([1, 0, 1] : List Int))).bind fun t228 => (some t228)) else (some false)) else (some false)))
theorem foghornlaw18_awake.mono : ∀ k, LeO (foghornlaw18_awake.f k ) (foghornlaw18_awake.f (k + 1) ) := by
  intro  k
  unfold foghornlaw18_awake.f
  repeat' first
      | (with_reducible exact field_Product.mono _ _ _)
      | (with_reducible exact field_Times.mono _ _ _)
      | (with_reducible exact foghornref18_Same.mono _ _ _)
      | (with_reducible exact LeO.refl _)
      | (with_reducible exact LeO.none _)
      | (with_reducible refine LeO.ite ?_ ?_)
      | (with_reducible refine LeO.bind ?_ (fun _ => ?_))
      | exact field_Product.mono _ _ _
      | exact field_Times.mono _ _ _
      | exact foghornref18_Same.mono _ _ _
      | exact LeO.none _
      | refine LeO.ite ?_ ?_
      | refine LeO.bind ?_ (fun _ => ?_)

/-! ### foghornlaw18_FieldNumbers: function 4 -/
def foghornlaw18_FieldNumbers.f (k : Nat) (a0 : Int) (a1 : Int) (a2 : Int) : Option (Bool) := (field_Over.f k a0 a1).bind fun bt229 => ((foghornref18_Over.f k a0 a1).bind fun bt231 => ((field_Power.f k a0 a2).bind fun bt233 => ((foghornref18_Power.f k a0 a2).bind fun bt235 => ((field_Log.f k a0).bind fun bt237 => ((foghornref18_Log.f k a0).bind fun bt239 => ((field_Plus.f a0 a1).bind fun t241 => ((foghornref18_Plus.f a0 a1).bind fun t242 => (if t241 = t242 then ((field_Times.f k a0 a1).bind fun t243 => ((foghornref18_Times.f k a0 a1).bind fun t244 => (if t243 = t244 then (if bt229.1 = bt231.1 then (if bt229.2 = bt231.2 then (if bt233.1 = bt235.1 then (if bt233.2 = bt235.2 then (if bt237.1 = bt239.1 then (if bt237.2 = bt239.2 then ((field_Exp.f k a2).bind fun t245 => ((foghornref18_Exp.f k a2).bind fun t246 => (if t245 = t246 then ((foghornlaw18_awake.f k).bind fun t247 => (some t247)) else (some false)))) else (some false)) else (some false)) else (some false)) else (some false)) else (some false)) else (some false)) else (some false)))) else (some false)))))))))
theorem foghornlaw18_FieldNumbers.mono : ∀ a0 a1 a2 k, LeO (foghornlaw18_FieldNumbers.f k a0 a1 a2) (foghornlaw18_FieldNumbers.f (k + 1) a0 a1 a2) := by
  intro a0 a1 a2 k
  unfold foghornlaw18_FieldNumbers.f
  repeat' first
      | (with_reducible exact field_Exp.mono _ _)
      | (with_reducible exact field_Log.mono _ _)
      | (with_reducible exact field_Over.mono _ _ _)
      | (with_reducible exact field_Power.mono _ _ _)
      | (with_reducible exact field_Times.mono _ _ _)
      | (with_reducible exact foghornlaw18_awake.mono _)
      | (with_reducible exact foghornref18_Exp.mono _ _)
      | (with_reducible exact foghornref18_Log.mono _ _)
      | (with_reducible exact foghornref18_Over.mono _ _ _)
      | (with_reducible exact foghornref18_Power.mono _ _ _)
      | (with_reducible exact foghornref18_Times.mono _ _ _)
      | (with_reducible exact LeO.refl _)
      | (with_reducible exact LeO.none _)
      | (with_reducible refine LeO.ite ?_ ?_)
      | (with_reducible refine LeO.bind ?_ (fun _ => ?_))
      | exact field_Exp.mono _ _
      | exact field_Log.mono _ _
      | exact field_Over.mono _ _ _
      | exact field_Power.mono _ _ _
      | exact field_Times.mono _ _ _
      | exact foghornlaw18_awake.mono _
      | exact foghornref18_Exp.mono _ _
      | exact foghornref18_Log.mono _ _
      | exact foghornref18_Over.mono _ _ _
      | exact foghornref18_Power.mono _ _ _
      | exact foghornref18_Times.mono _ _ _
      | exact LeO.none _
      | refine LeO.ite ?_ ?_
      | refine LeO.bind ?_ (fun _ => ?_)
/-- THE ONE PURE STATEMENT of foghornlaw18_FieldNumbers: yours. -/
def foghornlaw18_FieldNumbers.Pure : Prop := ∀ (a0 : Int) (a1 : Int) (a2 : Int), (Lit.int .u8 a0).wf = true → (Lit.int .u8 a1).wf = true → (Lit.int .i64 a2).wf = true → ∃ k, foghornlaw18_FieldNumbers.f k a0 a1 a2 = some true

/-! ### foghornlaw18_FieldLaws: function 5 -/
mutual
def foghornlaw18_FieldLaws.j0 : Nat → Int → Int → Int → Bool → Int → Int → Int → Int → Int → Option (Bool)
  | 0, _, _, _, _, _, _, _, _, _ => none
  | k + 1, x3, x4, x5, x57, x249000, x249001, x249002, x249003, x249004 => if x57 = true then (some false) else ((field_Times.f k x3 x4).bind fun t257 => ((field_Times.f k x4 x3).bind fun t258 => (if t257 = t258 then ((field_Times.f k x3 x4).bind fun t259 => ((field_Times.f k t259 x5).bind fun t260 => ((field_Times.f k x4 x5).bind fun t261 => ((field_Times.f k x3 t261).bind fun t262 => (if t260 = t262 then ((field_Times.f k x3 1).bind fun t263 => (if t263 = x3 then ((field_Times.f k x3 0).bind fun t264 => (if t264 = 0 then ((field_Plus.f x4 x5).bind fun t265 => ((field_Times.f k x3 t265).bind fun t266 => ((field_Times.f k x3 x4).bind fun t267 => ((field_Times.f k x3 x5).bind fun t268 => ((field_Plus.f t267 t268).bind fun t269 => (foghornlaw18_FieldLaws.j1 k x3 x4 (t266 != t269) x249000 x249001 x249002 x249003 x249004)))))) else (foghornlaw18_FieldLaws.j1 k x3 x4 true x249000 x249001 x249002 x249003 x249004))) else (foghornlaw18_FieldLaws.j1 k x3 x4 true x249000 x249001 x249002 x249003 x249004))) else (foghornlaw18_FieldLaws.j1 k x3 x4 true x249000 x249001 x249002 x249003 x249004)))))) else (foghornlaw18_FieldLaws.j1 k x3 x4 true x249000 x249001 x249002 x249003 x249004))))
def foghornlaw18_FieldLaws.j1 : Nat → Int → Int → Bool → Int → Int → Int → Int → Int → Option (Bool)
  | 0, _, _, _, _, _, _, _, _ => none
  | k + 1, x3, x4, x103, x249000, x249001, x249002, x249003, x249004 => if x103 = true then (some false) else ((field_Over.f k x3 x4).bind fun bt270 => (if x4 = 0 then (if bt270.2 = 6 then (if bt270.1 = 0 then ((foghornlaw18_awake.f k).bind fun t272 => (some t272)) else (some false)) else (some false)) else ((field_Power.f k x4 (-1)).bind fun bt273 => ((field_Power.f k x4 (wrap64 (x249003))).bind fun bt275 => ((field_Power.f k x4 (wrap64 (x249004))).bind fun bt277 => ((field_Power.f k x4 (wrap64 ((wrap64 (x249003)) + (wrap64 (x249004))))).bind fun bt279 => ((field_Power.f k x4 255).bind fun bt281 => ((field_Log.f k x4).bind fun bt283 => (if bt270.2 = 0 then (if bt273.2 = 0 then (if bt275.2 = 0 then (if bt277.2 = 0 then (if bt279.2 = 0 then (if bt281.2 = 0 then (if bt283.2 = 0 then ((field_Times.f k bt270.1 x4).bind fun t285 => (if t285 = x3 then ((field_Times.f k bt273.1 x4).bind fun t286 => (if t286 = 1 then ((field_Times.f k bt275.1 bt277.1).bind fun t287 => (if t287 = bt279.1 then (if bt281.1 = 1 then (if bt283.1 ≥ 0 then (if bt283.1 < 255 then ((field_Exp.f k bt283.1).bind fun t288 => (if t288 = x4 then ((field_Exp.f k (wrap64 (bt283.1 + 255))).bind fun t289 => (if t289 = x4 then (if ((x4 == 1) == (bt283.1 == 0)) = true then ((foghornlaw18_awake.f k).bind fun t290 => (some t290)) else (some false)) else (some false))) else (some false))) else (some false)) else (some false)) else (some false)) else (some false))) else (some false))) else (some false))) else (some false)) else (some false)) else (some false)) else (some false)) else (some false)) else (some false)) else (some false))))))))))
end
def foghornlaw18_FieldLaws.f (k : Nat) (a0_0 : Int) (a0_1 : Int) (a0_2 : Int) (a0_3 : Int) (a0_4 : Int) : Option (Bool) := (field_Plus.f a0_0 a0_1).bind fun t249 => ((field_Plus.f a0_1 a0_0).bind fun t250 => (if t249 = t250 then ((field_Plus.f a0_0 a0_1).bind fun t251 => ((field_Plus.f t251 a0_2).bind fun t252 => ((field_Plus.f a0_1 a0_2).bind fun t253 => ((field_Plus.f a0_0 t253).bind fun t254 => (if t252 = t254 then ((field_Plus.f a0_0 0).bind fun t255 => (if t255 = a0_0 then ((field_Plus.f a0_0 a0_0).bind fun t256 => (foghornlaw18_FieldLaws.j0 k a0_0 a0_1 a0_2 (t256 != 0) a0_0 a0_1 a0_2 a0_3 a0_4)) else (foghornlaw18_FieldLaws.j0 k a0_0 a0_1 a0_2 true a0_0 a0_1 a0_2 a0_3 a0_4))) else (foghornlaw18_FieldLaws.j0 k a0_0 a0_1 a0_2 true a0_0 a0_1 a0_2 a0_3 a0_4)))))) else (foghornlaw18_FieldLaws.j0 k a0_0 a0_1 a0_2 true a0_0 a0_1 a0_2 a0_3 a0_4)))
theorem foghornlaw18_FieldLaws.mono_l : ∀ k, (∀ y0 y1 y2 y3 y4 y5 y6 y7 y8, LeO (foghornlaw18_FieldLaws.j0 k y0 y1 y2 y3 y4 y5 y6 y7 y8) (foghornlaw18_FieldLaws.j0 (k + 1) y0 y1 y2 y3 y4 y5 y6 y7 y8)) ∧ (∀ y0 y1 y2 y3 y4 y5 y6 y7, LeO (foghornlaw18_FieldLaws.j1 k y0 y1 y2 y3 y4 y5 y6 y7) (foghornlaw18_FieldLaws.j1 (k + 1) y0 y1 y2 y3 y4 y5 y6 y7))
  | 0 => ⟨fun _ _ _ _ _ _ _ _ _ r h => by simp [foghornlaw18_FieldLaws.j0] at h, fun _ _ _ _ _ _ _ _ r h => by simp [foghornlaw18_FieldLaws.j1] at h⟩
  | k + 1 => by
    obtain ⟨ih0, ih1⟩ := foghornlaw18_FieldLaws.mono_l k
    refine ⟨?_, ?_⟩
    · intro y0 y1 y2 y3 y4 y5 y6 y7 y8
      unfold foghornlaw18_FieldLaws.j0
      repeat' first
      | (with_reducible exact ih0 _ _ _ _ _ _ _ _ _)
      | (with_reducible exact ih1 _ _ _ _ _ _ _ _)
      | (with_reducible exact field_Exp.mono _ _)
      | (with_reducible exact field_Log.mono _ _)
      | (with_reducible exact field_Over.mono _ _ _)
      | (with_reducible exact field_Power.mono _ _ _)
      | (with_reducible exact field_Times.mono _ _ _)
      | (with_reducible exact foghornlaw18_awake.mono _)
      | (with_reducible exact LeO.refl _)
      | (with_reducible exact LeO.none _)
      | (with_reducible refine LeO.ite ?_ ?_)
      | (with_reducible refine LeO.bind ?_ (fun _ => ?_))
      | exact ih0 _ _ _ _ _ _ _ _ _
      | exact ih1 _ _ _ _ _ _ _ _
      | exact field_Exp.mono _ _
      | exact field_Log.mono _ _
      | exact field_Over.mono _ _ _
      | exact field_Power.mono _ _ _
      | exact field_Times.mono _ _ _
      | exact foghornlaw18_awake.mono _
      | exact LeO.none _
      | refine LeO.ite ?_ ?_
      | refine LeO.bind ?_ (fun _ => ?_)
    · intro y0 y1 y2 y3 y4 y5 y6 y7
      unfold foghornlaw18_FieldLaws.j1
      repeat' first
      | (with_reducible exact ih0 _ _ _ _ _ _ _ _ _)
      | (with_reducible exact ih1 _ _ _ _ _ _ _ _)
      | (with_reducible exact field_Exp.mono _ _)
      | (with_reducible exact field_Log.mono _ _)
      | (with_reducible exact field_Over.mono _ _ _)
      | (with_reducible exact field_Power.mono _ _ _)
      | (with_reducible exact field_Times.mono _ _ _)
      | (with_reducible exact foghornlaw18_awake.mono _)
      | (with_reducible exact LeO.refl _)
      | (with_reducible exact LeO.none _)
      | (with_reducible refine LeO.ite ?_ ?_)
      | (with_reducible refine LeO.bind ?_ (fun _ => ?_))
      | exact ih0 _ _ _ _ _ _ _ _ _
      | exact ih1 _ _ _ _ _ _ _ _
      | exact field_Exp.mono _ _
      | exact field_Log.mono _ _
      | exact field_Over.mono _ _ _
      | exact field_Power.mono _ _ _
      | exact field_Times.mono _ _ _
      | exact foghornlaw18_awake.mono _
      | exact LeO.none _
      | refine LeO.ite ?_ ?_
      | refine LeO.bind ?_ (fun _ => ?_)
theorem foghornlaw18_FieldLaws.mono : ∀ a0 a1 a2 a3 a4 k, LeO (foghornlaw18_FieldLaws.f k a0 a1 a2 a3 a4) (foghornlaw18_FieldLaws.f (k + 1) a0 a1 a2 a3 a4) := by
  intro a0 a1 a2 a3 a4 k
  obtain ⟨ih0, ih1⟩ := foghornlaw18_FieldLaws.mono_l k
  unfold foghornlaw18_FieldLaws.f
  repeat' first
      | (with_reducible exact ih0 _ _ _ _ _ _ _ _ _)
      | (with_reducible exact ih1 _ _ _ _ _ _ _ _)
      | (with_reducible exact field_Exp.mono _ _)
      | (with_reducible exact field_Log.mono _ _)
      | (with_reducible exact field_Over.mono _ _ _)
      | (with_reducible exact field_Power.mono _ _ _)
      | (with_reducible exact field_Times.mono _ _ _)
      | (with_reducible exact foghornlaw18_awake.mono _)
      | (with_reducible exact LeO.refl _)
      | (with_reducible exact LeO.none _)
      | (with_reducible refine LeO.ite ?_ ?_)
      | (with_reducible refine LeO.bind ?_ (fun _ => ?_))
      | exact ih0 _ _ _ _ _ _ _ _ _
      | exact ih1 _ _ _ _ _ _ _ _
      | exact field_Exp.mono _ _
      | exact field_Log.mono _ _
      | exact field_Over.mono _ _ _
      | exact field_Power.mono _ _ _
      | exact field_Times.mono _ _ _
      | exact foghornlaw18_awake.mono _
      | exact LeO.none _
      | refine LeO.ite ?_ ?_
      | refine LeO.bind ?_ (fun _ => ?_)
/-- THE ONE PURE STATEMENT of foghornlaw18_FieldLaws: ours. -/
def foghornlaw18_FieldLaws.Pure : Prop := ∀ (a0_0 : Int) (a0_1 : Int) (a0_2 : Int) (a0_3 : Int) (a0_4 : Int), ((Lit.int .u8 a0_0).wf = true) → ((Lit.int .u8 a0_1).wf = true) → ((Lit.int .u8 a0_2).wf = true) → ((Lit.int .i32 a0_3).wf = true) → ((Lit.int .i32 a0_4).wf = true) → ∃ k, foghornlaw18_FieldLaws.f k a0_0 a0_1 a0_2 a0_3 a0_4 = some true

end Go.Proofs.Ytmdeldiocaofkaa.Q
