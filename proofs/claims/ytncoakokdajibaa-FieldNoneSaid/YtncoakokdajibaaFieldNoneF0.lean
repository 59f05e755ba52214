-- Printed by myprint.py (ours) over the kit's printer, out of the translation.
import Derived.Test.YtncoakokdajibaaFieldNoneK0
namespace Go.Proofs.Ytncoakokdajibaa.Q
open Go.RowKit Go.Proofs.YtncoakokdajibaaW.PrintWords Go.Proofs.YtncoakokdajibaaW.PrintLast Go.Proofs.YtncoakokdajibaaW.PrintMore
attribute [local go_sem] ArrW.ptrOf_slice max2_int min2_int max_two min_two max_three min_three max_four min_four   -- for this text's walks alone
set_option linter.unusedVariables false
set_option linter.unusedSimpArgs false

/-! ### field_Times: function 64 -/
def field_Times.l0 : Nat → Int → Int → Int → Option (Int)
  | 0, _, _, _ => none
  | k + 1, x0, x1, x5 => if x1 > 0 then (field_Times.l0 k (Go.bits .xor .u8 ((x0 * 2) % 256) (((x0 / 128) * 29) % 256)) (x1 / 2) (Go.bits .xor .u8 x5 ((x0 * (Go.bits .and .u8 x1 1)) % 256))) else (some x5)
def field_Times.f (k : Nat) (a0 : Int) (a1 : Int) : Option (Int) := field_Times.l0 k a0 a1 0
theorem field_Times.mono_l : ∀ k, (∀ y0 y1 y2, LeO (field_Times.l0 k y0 y1 y2) (field_Times.l0 (k + 1) y0 y1 y2))
  | 0 => fun _ _ _ r h => by simp [field_Times.l0] at h
  | k + 1 => by
    have ih0 := field_Times.mono_l k
    · intro y0 y1 y2
      unfold field_Times.l0
      repeat' first
      | (with_reducible exact ih0 _ _ _)
      | (with_reducible exact LeO.refl _)
      | (with_reducible exact LeO.none _)
      | (with_reducible refine LeO.ite ?_ ?_)
      | (with_reducible refine LeO.bind ?_ (fun _ => ?_))
      | exact ih0 _ _ _
      | exact LeO.none _
      | refine LeO.ite ?_ ?_
      | refine LeO.bind ?_ (fun _ => ?_)
theorem field_Times.mono : ∀ a0 a1 k, LeO (field_Times.f k a0 a1) (field_Times.f (k + 1) a0 a1) := by
  intro a0 a1 k
  have ih0 := field_Times.mono_l k
  unfold field_Times.f
  repeat' first
      | (with_reducible exact ih0 _ _ _)
      | (with_reducible exact LeO.refl _)
      | (with_reducible exact LeO.none _)
      | (with_reducible refine LeO.ite ?_ ?_)
      | (with_reducible refine LeO.bind ?_ (fun _ => ?_))
      | exact ih0 _ _ _
      | exact LeO.none _
      | refine LeO.ite ?_ ?_
      | refine LeO.bind ?_ (fun _ => ?_)

/-! ### slices_Clone_uint8_uint8: function 84 -/
def slices_Clone_uint8_uint8.f (l0 : List Int) : Option (List Int) := if l0.length < 140737488355328 then some l0 else none

/-! ### field_poly: function 79 -/
def field_poly.l0 : Nat → List Int → Int → Option (List Int)
  | 0, _, _ => none
  | k + 1, x0, x3 => if x3 > 0 then (if 0 ≤ (wrap64 (x3 - 1)) then (if (wrap64 (x3 - 1)) < (x0.length : Int) then (if (rd x0 (wrap64 (x3 - 1))) = 0 then (field_poly.l0 k x0 (wrap64 (x3 - 1))) else (if 0 ≤ x3 then (if x3 ≤ (x0.length : Int) then ((slices_Clone_uint8_uint8.f (x0.take (x3 : Int).toNat)).bind fun t103 => (some t103)) else (none)) else (none))) else (none)) else (none)) else (if 0 ≤ x3 then (if x3 ≤ (x0.length : Int) then ((slices_Clone_uint8_uint8.f (x0.take (x3 : Int).toNat)).bind fun t107 => (some t107)) else (none)) else (none))
def field_poly.f (k : Nat) (l0 : List Int) : Option (List Int) := field_poly.l0 k l0 (l0.length : Int)
theorem field_poly.mono_l : ∀ k, (∀ y0 y1, LeO (field_poly.l0 k y0 y1) (field_poly.l0 (k + 1) y0 y1))
  | 0 => fun _ _ r h => by simp [field_poly.l0] at h
  | k + 1 => by
    have ih0 := field_poly.mono_l k
    · intro y0 y1
      unfold field_poly.l0
      repeat' first
      | (with_reducible exact ih0 _ _)
      | (with_reducible exact LeO.refl _)
      | (with_reducible exact LeO.none _)
      | (with_reducible refine LeO.ite ?_ ?_)
      | (with_reducible refine LeO.bind ?_ (fun _ => ?_))
      | exact ih0 _ _
      | exact LeO.none _
      | refine LeO.ite ?_ ?_
      | refine LeO.bind ?_ (fun _ => ?_)
theorem field_poly.mono : ∀ a0 k, LeO (field_poly.f k a0) (field_poly.f (k + 1) a0) := by
  intro a0 k
  have ih0 := field_poly.mono_l k
  unfold field_poly.f
  repeat' first
      | (with_reducible exact ih0 _ _)
      | (with_reducible exact LeO.refl _)
      | (with_reducible exact LeO.none _)
      | (with_reducible refine LeO.ite ?_ ?_)
      | (with_reducible refine LeO.bind ?_ (fun _ => ?_))
      | exact ih0 _ _
      | exact LeO.none _
      | refine LeO.ite ?_ ?_
      | refine LeO.bind ?_ (fun _ => ?_)

/-! ### field_product: function 80 -/
mutual
def field_product.l0 : Nat → List Int → List Int → List Int → Int → Int → Option (List Int)
  | 0, _, _, _, _, _ => none
  | k + 1, x1, x5, x16, x17, x18 => if x18 < x17 then (if 0 ≤ x18 then (if x18 < (x16.length : Int) then (field_product.l1 k x1 x5 x18 (rd x16 x18) x16 x17 x18 x1 (x1.length : Int) 0) else (none)) else (none)) else ((field_poly.f k x5).bind fun t113 => (some t113))
def field_product.l1 : Nat → List Int → List Int → Int → Int → List Int → Int → Int → List Int → Int → Int → Option (List Int)
  | 0, _, _, _, _, _, _, _, _, _, _ => none
  | k + 1, x1, x5, x6, x7, x16, x17, x18, x23, x24, x25 => if x25 < x24 then (if 0 ≤ x25 then (if x25 < (x23.length : Int) then (if 0 ≤ (wrap64 (x6 + x25)) then (if (wrap64 (x6 + x25)) < (x5.length : Int) then ((field_Times.f k x7 (rd x23 x25)).bind fun t119 => (field_product.l1 k x1 (x5.set ((wrap64 (x6 + x25)) : Int).toNat (Go.bits .xor .u8 (rd x5 (wrap64 (x6 + x25))) t119)) x6 x7 x16 x17 x18 x23 x24 (wrap64 (x25 + 1)))) else (none)) else (none)) else (none)) else (none)) else (field_product.l0 k x1 x5 x16 x17 (wrap64 (x18 + 1)))
end
def field_product.f (k : Nat) (l0 : List Int) (l1 : List Int) : Option (List Int) := if 0 ≤ (wrap64 ((l0.length : Int) + (l1.length : Int))) then (if (wrap64 ((l0.length : Int) + (l1.length : Int)) : Int).toNat ≤ 281474976710656 then (field_product.l0 k l1 (List.replicate (wrap64 ((l0.length : Int) + (l1.length : Int)) : Int).toNat 0) l0 (l0.length : Int) 0) else (none)) else (none)
theorem field_product.mono_l : ∀ k, (∀ y0 y1 y2 y3 y4, LeO (field_product.l0 k y0 y1 y2 y3 y4) (field_product.l0 (k + 1) y0 y1 y2 y3 y4)) ∧ (∀ y0 y1 y2 y3 y4 y5 y6 y7 y8 y9, LeO (field_product.l1 k y0 y1 y2 y3 y4 y5 y6 y7 y8 y9) (field_product.l1 (k + 1) y0 y1 y2 y3 y4 y5 y6 y7 y8 y9))
  | 0 => ⟨fun _ _ _ _ _ r h => by simp [field_product.l0] at h, fun _ _ _ _ _ _ _ _ _ _ r h => by simp [field_product.l1] at h⟩
  | k + 1 => by
    obtain ⟨ih0, ih1⟩ := field_product.mono_l k
    refine ⟨?_, ?_⟩
    · intro y0 y1 y2 y3 y4
      unfold field_product.l0
      repeat' first
      | (with_reducible exact ih0 _ _ _ _ _)
      | (with_reducible exact ih1 _ _ _ _ _ _ _ _ _ _)
      | (with_reducible exact field_Times.mono _ _ _)
      | (with_reducible exact field_poly.mono _ _)
      | (with_reducible exact LeO.refl _)
      | (with_reducible exact LeO.none _)
      | (with_reducible refine LeO.ite ?_ ?_)
      | (with_reducible refine LeO.bind ?_ (fun _ => ?_))
      | exact ih0 _ _ _ _ _
      | exact ih1 _ _ _ _ _ _ _ _ _ _
      | exact field_Times.mono _ _ _
      | exact field_poly.mono _ _
      | exact LeO.none _
      | refine LeO.ite ?_ ?_
      | refine LeO.bind ?_ (fun _ => ?_)
    · intro y0 y1 y2 y3 y4 y5 y6 y7 y8 y9
      unfold field_product.l1
      repeat' first
      | (with_reducible exact ih0 _ _ _ _ _)
      | (with_reducible exact ih1 _ _ _ _ _ _ _ _ _ _)
      | (with_reducible exact field_Times.mono _ _ _)
      | (with_reducible exact field_poly.mono _ _)
      | (with_reducible exact LeO.refl _)
      | (with_reducible exact LeO.none _)
      | (with_reducible refine LeO.ite ?_ ?_)
      | (with_reducible refine LeO.bind ?_ (fun _ => ?_))
      | exact ih0 _ _ _ _ _
      | exact ih1 _ _ _ _ _ _ _ _ _ _
      | exact field_Times.mono _ _ _
      | exact field_poly.mono _ _
      | exact LeO.none _
      | refine LeO.ite ?_ ?_
      | refine LeO.bind ?_ (fun _ => ?_)
theorem field_product.mono : ∀ a0 a1 k, LeO (field_product.f k a0 a1) (field_product.f (k + 1) a0 a1) := by
  intro a0 a1 k
  obtain ⟨ih0, ih1⟩ := field_product.mono_l k
  unfold field_product.f
  repeat' first
      | (with_reducible exact ih0 _ _ _ _ _)
      | (with_reducible exact ih1 _ _ _ _ _ _ _ _ _ _)
      | (with_reducible exact field_Times.mono _ _ _)
      | (with_reducible exact field_poly.mono _ _)
      | (with_reducible exact LeO.refl _)
      | (with_reducible exact LeO.none _)
      | (with_reducible refine LeO.ite ?_ ?_)
      | (with_reducible refine LeO.bind ?_ (fun _ => ?_))
      | exact ih0 _ _ _ _ _
      | exact ih1 _ _ _ _ _ _ _ _ _ _
      | exact field_Times.mono _ _ _
      | exact field_poly.mono _ _
      | exact LeO.none _
      | refine LeO.ite ?_ ?_
      | refine LeO.bind ?_ (fun _ => ?_)
def field_product.T8 : Bool × List (List Nat × List Nat) := (true, [([], []), ([], []), ([], []), ([1, 2], [1, 2]), ([0, 3], [0, 3]), ([4], [4]), ([], []), ([], []), ([6, 7], [6, 7]), ([5, 8], [5, 8]), ([0, 3, 0, 1, 2, 3, 4, 5, 6, 7, 8, 9], [0, 3]), ([10, 9, 8, 0, 1, 2, 3, 4, 5, 6, 7, 8, 9], [9, 10])])
def field_product.B8 : List Nat := [0, 0, 0, 6, 15, 31, 0, 0, 192, 511, 1023, 2047]
theorem field_product.tab8 : rtab .any (opsOf Try.f80 8) = field_product.T8 := by kernel_rfl
theorem field_product.bits8 : waitsOk field_product.T8.2 field_product.B8 = true := by kernel_rfl

/-! ### field_Of: function 42 -/
def field_Of.l0 : Nat → List Int → List Int → Int → Int → Option (List Int × Int)
  | 0, _, _, _, _ => none
  | k + 1, x4, x11, x12, x13 => if x13 < x12 then (if 0 ≤ x13 then (if x13 < (x11.length : Int) then ((field_product.f k x4 (([rd x11 x13, 1] : List Int))).bind fun t128 => (field_Of.l0 k t128 x11 x12 (wrap64 (x13 + 1)))) else (none)) else (none)) else (some (x4, 0))
def field_Of.f (k : Nat) (l0 : List Int) : Option (List Int × Int) := if (l0.length : Int) ≥ 512 then (some (([] : List Int), 1)) else (field_Of.l0 k (([1] : List Int)) l0 (l0.length : Int) 0)
theorem field_Of.mono_l : ∀ k, (∀ y0 y1 y2 y3, LeO (field_Of.l0 k y0 y1 y2 y3) (field_Of.l0 (k + 1) y0 y1 y2 y3))
  | 0 => fun _ _ _ _ r h => by simp [field_Of.l0] at h
  | k + 1 => by
    have ih0 := field_Of.mono_l k
    · intro y0 y1 y2 y3
      unfold field_Of.l0
      repeat' first
      | (with_reducible exact ih0 _ _ _ _)
      | (with_reducible exact field_product.mono _ _ _)
      | (with_reducible exact LeO.refl _)
      | (with_reducible exact LeO.none _)
      | (with_reducible refine LeO.ite ?_ ?_)
      | (with_reducible refine LeO.bind ?_ (fun _ => ?_))
      | exact ih0 _ _ _ _
      | exact field_product.mono _ _ _
      | exact LeO.none _
      | refine LeO.ite ?_ ?_
      | refine LeO.bind ?_ (fun _ => ?_)
theorem field_Of.mono : ∀ a0 k, LeO (field_Of.f k a0) (field_Of.f (k + 1) a0) := by
  intro a0 k
  have ih0 := field_Of.mono_l k
  unfold field_Of.f
  repeat' first
      | (with_reducible exact ih0 _ _ _ _)
      | (with_reducible exact field_product.mono _ _ _)
      | (with_reducible exact LeO.refl _)
      | (with_reducible exact LeO.none _)
      | (with_reducible refine LeO.ite ?_ ?_)
      | (with_reducible refine LeO.bind ?_ (fun _ => ?_))
      | exact ih0 _ _ _ _
      | exact field_product.mono _ _ _
      | exact LeO.none _
      | refine LeO.ite ?_ ?_
      | refine LeO.bind ?_ (fun _ => ?_)

/-! ### field_raised: function 83 -/
def field_raised.l0 : Nat → Int → Int → Int → Option (Int)
  | 0, _, _, _ => none
  | k + 1, x0, x1, x5 => if x1 > 0 then (if (Go.bits .and .i64 x1 1) > 0 then ((field_Times.f k x5 x0).bind fun t131 => ((field_Times.f k x0 x0).bind fun t132 => (field_raised.l0 k t132 (x1 / 2) t131))) else ((field_Times.f k x0 x0).bind fun t133 => (field_raised.l0 k t133 (x1 / 2) x5))) else (some x5)
def field_raised.f (k : Nat) (a0 : Int) (a1 : Int) : Option (Int) := field_raised.l0 k a0 a1 1
theorem field_raised.mono_l : ∀ k, (∀ y0 y1 y2, LeO (field_raised.l0 k y0 y1 y2) (field_raised.l0 (k + 1) y0 y1 y2))
  | 0 => fun _ _ _ r h => by simp [field_raised.l0] at h
  | k + 1 => by
    have ih0 := field_raised.mono_l k
    · intro y0 y1 y2
      unfold field_raised.l0
      repeat' first
      | (with_reducible exact ih0 _ _ _)
      | (with_reducible exact field_Times.mono _ _ _)
      | (with_reducible exact LeO.refl _)
      | (with_reducible exact LeO.none _)
      | (with_reducible refine LeO.ite ?_ ?_)
      | (with_reducible refine LeO.bind ?_ (fun _ => ?_))
      | exact ih0 _ _ _
      | exact field_Times.mono _ _ _
      | exact LeO.none _
      | refine LeO.ite ?_ ?_
      | refine LeO.bind ?_ (fun _ => ?_)
theorem field_raised.mono : ∀ a0 a1 k, LeO (field_raised.f k a0 a1) (field_raised.f (k + 1) a0 a1) := by
  intro a0 a1 k
  have ih0 := field_raised.mono_l k
  unfold field_raised.f
  repeat' first
      | (with_reducible exact ih0 _ _ _)
      | (with_reducible exact field_Times.mono _ _ _)
      | (with_reducible exact LeO.refl _)
      | (with_reducible exact LeO.none _)
      | (with_reducible refine LeO.ite ?_ ?_)
      | (with_reducible refine LeO.bind ?_ (fun _ => ?_))
      | exact ih0 _ _ _
      | exact field_Times.mono _ _ _
      | exact LeO.none _
      | refine LeO.ite ?_ ?_
      | refine LeO.bind ?_ (fun _ => ?_)

/-! ### field_Exp: function 65 -/
def field_Exp.f (k : Nat) (a0 : Int) : Option (Int) := (field_raised.f k 2 (Int.tmod (wrap64 ((Int.tmod a0 255) + 255)) 255)).bind fun t134 => (some t134)
theorem field_Exp.mono : ∀ a0 k, LeO (field_Exp.f k a0) (field_Exp.f (k + 1) a0) := by
  intro a0 k
  unfold field_Exp.f
  repeat' first
      | (with_reducible exact field_raised.mono _ _ _)
      | (with_reducible exact LeO.refl _)
      | (with_reducible exact LeO.none _)
      | (with_reducible refine LeO.ite ?_ ?_)
      | (with_reducible refine LeO.bind ?_ (fun _ => ?_))
      | exact field_raised.mono _ _ _
      | exact LeO.none _
      | refine LeO.ite ?_ ?_
      | refine LeO.bind ?_ (fun _ => ?_)

/-! ### reed_checks: function 71 -/
def reed_checks.f (a0 : Int) : Option (Bool) := if a0 ≥ 2 then (if a0 ≤ 64 then (some ((Int.tmod a0 2) == 0)) else (some false)) else (some false)

/-! ### reed_Generator: function 33 -/
def reed_Generator.l0 : Nat → List Int → Int → Int → Option (List Int × Int)
  | 0, _, _, _ => none
  | k + 1, x4, x11, x12 => if x12 < x11 then ((field_Exp.f k x12).bind fun t139 => (if 0 ≤ x12 then (if x12 < (x4.length : Int) then (reed_Generator.l0 k (x4.set (x12 : Int).toNat t139) x11 (wrap64 (x12 + 1))) else (none)) else (none))) else ((field_Of.f k x4).bind fun bt141 => (some (bt141.1, bt141.2)))
def reed_Generator.f (k : Nat) (a0 : Int) : Option (List Int × Int) := (reed_checks.f a0).bind fun t135 => (if t135 = true then (if 0 ≤ a0 then (if (a0 : Int).toNat ≤ 281474976710656 then (reed_Generator.l0 k (List.replicate (a0 : Int).toNat 0) a0 0) else (none)) else (none)) else (some (([] : List Int), 1)))
theorem reed_Generator.mono_l : ∀ k, (∀ y0 y1 y2, LeO (reed_Generator.l0 k y0 y1 y2) (reed_Generator.l0 (k + 1) y0 y1 y2))
  | 0 => fun _ _ _ r h => by simp [reed_Generator.l0] at h
  | k + 1 => by
    have ih0 := reed_Generator.mono_l k
    · intro y0 y1 y2
      unfold reed_Generator.l0
      repeat' first
      | (with_reducible exact ih0 _ _ _)
      | (with_reducible exact field_Exp.mono _ _)
      | (with_reducible exact field_Of.mono _ _)
      | (with_reducible exact LeO.refl _)
      | (with_reducible exact LeO.none _)
      | (with_reducible refine LeO.ite ?_ ?_)
      | (with_reducible refine LeO.bind ?_ (fun _ => ?_))
      | exact ih0 _ _ _
      | exact field_Exp.mono _ _
      | exact field_Of.mono _ _
      | exact LeO.none _
      | refine LeO.ite ?_ ?_
      | refine LeO.bind ?_ (fun _ => ?_)
theorem reed_Generator.mono : ∀ a0 k, LeO (reed_Generator.f k a0) (reed_Generator.f (k + 1) a0) := by
  intro a0 k
  have ih0 := reed_Generator.mono_l k
  unfold reed_Generator.f
  repeat' first
      | (with_reducible exact ih0 _ _ _)
      | (with_reducible exact field_Exp.mono _ _)
      | (with_reducible exact field_Of.mono _ _)
      | (with_reducible exact LeO.refl _)
      | (with_reducible exact LeO.none _)
      | (with_reducible refine LeO.ite ?_ ?_)
      | (with_reducible refine LeO.bind ?_ (fun _ => ?_))
      | exact ih0 _ _ _
      | exact field_Exp.mono _ _
      | exact field_Of.mono _ _
      | exact LeO.none _
      | refine LeO.ite ?_ ?_
      | refine LeO.bind ?_ (fun _ => ?_)

/-! ### field_long: function 77 -/
def field_long.f (l0 : List (List Int)) : Option (Bool) := some (l0.any fun l => decide ((l.length : Int) > 512))

/-! ### field_sum: function 78 -/
mutual
def field_sum.l0 : Nat → List Int → List Int → Int → Int → Option (List Int)
  | 0, _, _, _, _ => none
  | k + 1, x5, x17, x18, x19 => if x19 < x18 then (if 0 ≤ x19 then (if x19 < (x17.length : Int) then (if x19 < (x5.length : Int) then (field_sum.l0 k (x5.set (x19 : Int).toNat (Go.bits .xor .u8 (rd x5 x19) (rd x17 x19))) x17 x18 (wrap64 (x19 + 1))) else (none)) else (none)) else (none)) else ((field_poly.f k x5).bind fun t346 => (some t346))
def field_sum.l102 : Nat → List Int → List Int → Int → Int → Option (List Int)
  | 0, _, _, _, _ => none
  | k + 1, x5, x17, x18, x19 => if x19 < x18 then (if 0 ≤ x19 then (if x19 < (x17.length : Int) then (if x19 < (x5.length : Int) then (field_sum.l102 k (x5.set (x19 : Int).toNat (Go.bits .xor .u8 (rd x5 x19) (rd x17 x19))) x17 x18 (wrap64 (x19 + 1))) else (none)) else (none)) else (none)) else ((field_poly.f k x5).bind fun t355 => (some t355))
end
def field_sum.f (k : Nat) (l0 : List Int) (l1 : List Int) : Option (List Int) := if (l0.length : Int) < (l1.length : Int) then ((slices_Clone_uint8_uint8.f l1).bind fun t340 => (field_sum.l0 k t340 l0 (l0.length : Int) 0)) else ((slices_Clone_uint8_uint8.f l0).bind fun t349 => (field_sum.l102 k t349 l1 (l1.length : Int) 0))
theorem field_sum.mono_l : ∀ k, (∀ y0 y1 y2 y3, LeO (field_sum.l0 k y0 y1 y2 y3) (field_sum.l0 (k + 1) y0 y1 y2 y3)) ∧ (∀ y0 y1 y2 y3, LeO (field_sum.l102 k y0 y1 y2 y3) (field_sum.l102 (k + 1) y0 y1 y2 y3))
  | 0 => ⟨fun _ _ _ _ r h => by simp [field_sum.l0] at h, fun _ _ _ _ r h => by simp [field_sum.l102] at h⟩
  | k + 1 => by
    obtain ⟨ih0, ih1⟩ := field_sum.mono_l k
    refine ⟨?_, ?_⟩
    · intro y0 y1 y2 y3
      unfold field_sum.l0
      repeat' first
      | (with_reducible exact ih0 _ _ _ _)
      | (with_reducible exact ih1 _ _ _ _)
      | (with_reducible exact field_poly.mono _ _)
      | (with_reducible exact LeO.refl _)
      | (with_reducible exact LeO.none _)
      | (with_reducible refine LeO.ite ?_ ?_)
      | (with_reducible refine LeO.bind ?_ (fun _ => ?_))
      | exact ih0 _ _ _ _
      | exact ih1 _ _ _ _
      | exact field_poly.mono _ _
      | exact LeO.none _
      | refine LeO.ite ?_ ?_
      | refine LeO.bind ?_ (fun _ => ?_)
    · intro y0 y1 y2 y3
      unfold field_sum.l102
      repeat' first
      | (with_reducible exact ih0 _ _ _ _)
      | (with_reducible exact ih1 _ _ _ _)
      | (with_reducible exact field_poly.mono _ _)
      | (with_reducible exact LeO.refl _)
      | (with_reducible exact LeO.none _)
      | (with_reducible refine LeO.ite ?_ ?_)
      | (with_reducible refine LeO.bind ?_ (fun _ => ?_))
      | exact ih0 _ _ _ _
      | exact ih1 _ _ _ _
      | exact field_poly.mono _ _
      | exact LeO.none _
      | refine LeO.ite ?_ ?_
      | refine LeO.bind ?_ (fun _ => ?_)
theorem field_sum.mono : ∀ a0 a1 k, LeO (field_sum.f k a0 a1) (field_sum.f (k + 1) a0 a1) := by
  intro a0 a1 k
  obtain ⟨ih0, ih1⟩ := field_sum.mono_l k
  unfold field_sum.f
  repeat' first
      | (with_reducible exact ih0 _ _ _ _)
      | (with_reducible exact ih1 _ _ _ _)
      | (with_reducible exact field_poly.mono _ _)
      | (with_reducible exact LeO.refl _)
      | (with_reducible exact LeO.none _)
      | (with_reducible refine LeO.ite ?_ ?_)
      | (with_reducible refine LeO.bind ?_ (fun _ => ?_))
      | exact ih0 _ _ _ _
      | exact ih1 _ _ _ _
      | exact field_poly.mono _ _
      | exact LeO.none _
      | refine LeO.ite ?_ ?_
      | refine LeO.bind ?_ (fun _ => ?_)

/-! ### field_Sum: function 38 -/
def field_Sum.f (k : Nat) (l0 : List Int) (l1 : List Int) : Option (List Int × Int) := (field_long.f (([l0, l1] : List (List Int)))).bind fun t361 => (if t361 = true then (some (([] : List Int), 1)) else ((field_sum.f k l0 l1).bind fun t362 => (some (t362, 0))))
theorem field_Sum.mono : ∀ a0 a1 k, LeO (field_Sum.f k a0 a1) (field_Sum.f (k + 1) a0 a1) := by
  intro a0 a1 k
  unfold field_Sum.f
  repeat' first
      | (with_reducible exact field_sum.mono _ _ _)
      | (with_reducible exact LeO.refl _)
      | (with_reducible exact LeO.none _)
      | (with_reducible refine LeO.ite ?_ ?_)
      | (with_reducible refine LeO.bind ?_ (fun _ => ?_))
      | exact field_sum.mono _ _ _
      | exact LeO.none _
      | refine LeO.ite ?_ ?_
      | refine LeO.bind ?_ (fun _ => ?_)

/-! ### field_Product: function 39 -/
def field_Product.f (k : Nat) (l0 : List Int) (l1 : List Int) : Option (List Int × Int) := (field_long.f (([l0, l1] : List (List Int)))).bind fun t368 => (if t368 = true then (some (([] : List Int), 1)) else ((field_poly.f k l0).bind fun t369 => ((field_poly.f k l1).bind fun t372 => (if (mn (t369.length : Int) (t372.length : Int)) > 0 then (if (wrap64 ((t369.length : Int) + (t372.length : Int))) > 513 then (some (([] : List Int), 1)) else ((field_product.f k t369 t372).bind fun t375 => (some (t375, 0)))) else ((field_product.f k t369 t372).bind fun t378 => (some (t378, 0)))))))
theorem field_Product.mono : ∀ a0 a1 k, LeO (field_Product.f k a0 a1) (field_Product.f (k + 1) a0 a1) := by
  intro a0 a1 k
  unfold field_Product.f
  repeat' first
      | (with_reducible exact field_poly.mono _ _)
      | (with_reducible exact field_product.mono _ _ _)
      | (with_reducible exact LeO.refl _)
      | (with_reducible exact LeO.none _)
      | (with_reducible refine LeO.ite ?_ ?_)
      | (with_reducible refine LeO.bind ?_ (fun _ => ?_))
      | exact field_poly.mono _ _
      | exact field_product.mono _ _ _
      | exact LeO.none _
      | refine LeO.ite ?_ ?_
      | refine LeO.bind ?_ (fun _ => ?_)

/-! ### field_divide: function 81 -/
mutual
def field_divide.l0 : Nat → List Int → List Int → List Int → Int → Int → Option (List Int × List Int)
  | 0, _, _, _, _, _ => none
  | k + 1, x1, x4, x5, x6, x7 => if x7 ≥ 0 then (if 0 ≤ (wrap64 ((wrap64 (x7 + (x1.length : Int))) - 1)) then (if (wrap64 ((wrap64 (x7 + (x1.length : Int))) - 1)) < (x5.length : Int) then ((field_Times.f k (rd x5 (wrap64 ((wrap64 (x7 + (x1.length : Int))) - 1))) x6).bind fun t393 => (if 0 ≤ x7 then (if x7 < (x4.length : Int) then (field_divide.l1 k x1 (x4.set (x7 : Int).toNat t393) x5 x6 x7 t393 x1 (x1.length : Int) 0) else (none)) else (none))) else (none)) else (none)) else ((field_poly.f k x5).bind fun t389 => (some (x4, t389)))
def field_divide.l1 : Nat → List Int → List Int → List Int → Int → Int → Int → List Int → Int → Int → Option (List Int × List Int)
  | 0, _, _, _, _, _, _, _, _, _ => none
  | k + 1, x1, x4, x5, x6, x7, x8, x49, x50, x51 => if x51 < x50 then (if 0 ≤ x51 then (if x51 < (x49.length : Int) then (if 0 ≤ (wrap64 (x7 + x51)) then (if (wrap64 (x7 + x51)) < (x5.length : Int) then ((field_Times.f k x8 (rd x49 x51)).bind fun t397 => (field_divide.l1 k x1 x4 (x5.set ((wrap64 (x7 + x51)) : Int).toNat (Go.bits .xor .u8 (rd x5 (wrap64 (x7 + x51))) t397)) x6 x7 x8 x49 x50 (wrap64 (x51 + 1)))) else (none)) else (none)) else (none)) else (none)) else (field_divide.l0 k x1 x4 x5 x6 (wrap64 (x7 - 1)))
end
def field_divide.f (k : Nat) (l0 : List Int) (l1 : List Int) : Option (List Int × List Int) := (field_poly.f k l0).bind fun t381 => (if 0 ≤ (wrap64 ((l1.length : Int) - 1)) then (if (wrap64 ((l1.length : Int) - 1)) < (l1.length : Int) then ((field_raised.f k (rd l1 (wrap64 ((l1.length : Int) - 1))) 254).bind fun t385 => (if 0 ≤ (mx 0 (wrap64 ((wrap64 ((t381.length : Int) - (l1.length : Int))) + 1))) then (if (mx 0 (wrap64 ((wrap64 ((t381.length : Int) - (l1.length : Int))) + 1)) : Int).toNat ≤ 281474976710656 then ((some (List.replicate (mx 0 (wrap64 ((wrap64 ((t381.length : Int) - (l1.length : Int))) + 1)) : Int).toNat 0 : List Int)).bind fun y386 => (field_divide.l0 k l1 y386 t381 t385 (wrap64 ((y386.length : Int) - 1)))) else (none)) else (none))) else (none)) else (none))
theorem field_divide.mono_l : ∀ k, (∀ y0 y1 y2 y3 y4, LeO (field_divide.l0 k y0 y1 y2 y3 y4) (field_divide.l0 (k + 1) y0 y1 y2 y3 y4)) ∧ (∀ y0 y1 y2 y3 y4 y5 y6 y7 y8, LeO (field_divide.l1 k y0 y1 y2 y3 y4 y5 y6 y7 y8) (field_divide.l1 (k + 1) y0 y1 y2 y3 y4 y5 y6 y7 y8))
  | 0 => ⟨fun _ _ _ _ _ r h => by simp [field_divide.l0] at h, fun _ _ _ _ _ _ _ _ _ r h => by simp [field_divide.l1] at h⟩
  | k + 1 => by
    obtain ⟨ih0, ih1⟩ := field_divide.mono_l k
    refine ⟨?_, ?_⟩
    · intro y0 y1 y2 y3 y4
      unfold field_divide.l0
      repeat' first
      | (with_reducible exact ih0 _ _ _ _ _)
      | (with_reducible exact ih1 _ _ _ _ _ _ _ _ _)
      | (with_reducible exact field_Times.mono _ _ _)
      | (with_reducible exact field_poly.mono _ _)
      | (with_reducible exact field_raised.mono _ _ _)
      | (with_reducible exact LeO.refl _)
      | (with_reducible exact LeO.none _)
      | (with_reducible refine LeO.ite ?_ ?_)
      | (with_reducible refine LeO.bind ?_ (fun _ => ?_))
      | exact ih0 _ _ _ _ _
      | exact ih1 _ _ _ _ _ _ _ _ _
      | exact field_Times.mono _ _ _
      | exact field_poly.mono _ _
      | exact field_raised.mono _ _ _
      | exact LeO.none _
      | refine LeO.ite ?_ ?_
      | refine LeO.bind ?_ (fun _ => ?_)
    · intro y0 y1 y2 y3 y4 y5 y6 y7 y8
      unfold field_divide.l1
      repeat' first
      | (with_reducible exact ih0 _ _ _ _ _)
      | (with_reducible exact ih1 _ _ _ _ _ _ _ _ _)
      | (with_reducible exact field_Times.mono _ _ _)
      | (with_reducible exact field_poly.mono _ _)
      | (with_reducible exact field_raised.mono _ _ _)
      | (with_reducible exact LeO.refl _)
      | (with_reducible exact LeO.none _)
      | (with_reducible refine LeO.ite ?_ ?_)
      | (with_reducible refine LeO.bind ?_ (fun _ => ?_))
      | exact ih0 _ _ _ _ _
      | exact ih1 _ _ _ _ _ _ _ _ _
      | exact field_Times.mono _ _ _
      | exact field_poly.mono _ _
      | exact field_raised.mono _ _ _
      | exact LeO.none _
      | refine LeO.ite ?_ ?_
      | refine LeO.bind ?_ (fun _ => ?_)
theorem field_divide.mono : ∀ a0 a1 k, LeO (field_divide.f k a0 a1) (field_divide.f (k + 1) a0 a1) := by
  intro a0 a1 k
  obtain ⟨ih0, ih1⟩ := field_divide.mono_l k
  unfold field_divide.f
  repeat' first
      | (with_reducible exact ih0 _ _ _ _ _)
      | (with_reducible exact ih1 _ _ _ _ _ _ _ _ _)
      | (with_reducible exact field_Times.mono _ _ _)
      | (with_reducible exact field_poly.mono _ _)
      | (with_reducible exact field_raised.mono _ _ _)
      | (with_reducible exact LeO.refl _)
      | (with_reducible exact LeO.none _)
      | (with_reducible refine LeO.ite ?_ ?_)
      | (with_reducible refine LeO.bind ?_ (fun _ => ?_))
      | exact ih0 _ _ _ _ _
      | exact ih1 _ _ _ _ _ _ _ _ _
      | exact field_Times.mono _ _ _
      | exact field_poly.mono _ _
      | exact field_raised.mono _ _ _
      | exact LeO.none _
      | refine LeO.ite ?_ ?_
      | refine LeO.bind ?_ (fun _ => ?_)
def field_divide.T12 : Bool × List (List Nat × List Nat) := (true, [([], []), ([], []), ([], []), ([1, 2], [1, 2]), ([0, 3], [0, 3]), ([4], [4]), ([], []), ([], []), ([6, 7], [6, 7]), ([5, 8], [5, 8]), ([0, 3, 0, 1, 2, 3, 4, 5, 6, 7, 8, 9], [0, 3]), ([10, 9, 8, 0, 1, 2, 3, 4, 5, 6, 7, 8, 9], [9, 10])])
def field_divide.B12 : List Nat := [0, 0, 0, 6, 15, 31, 0, 0, 192, 511, 1023, 2047]
theorem field_divide.tab12 : rtab .any (opsOf Try.f81 12) = field_divide.T12 := by kernel_rfl
theorem field_divide.bits12 : waitsOk field_divide.T12.2 field_divide.B12 = true := by kernel_rfl

/-! ### field_Divide: function 40 -/
def field_Divide.f (k : Nat) (l0 : List Int) (l1 : List Int) : Option (List Int × List Int × Int) := (field_long.f (([l0, l1] : List (List Int)))).bind fun t402 => (if t402 = true then (some (([] : List Int), ([] : List Int), 1)) else ((field_poly.f k l1).bind fun t403 => (if (t403.length : Int) = 0 then (some (([] : List Int), ([] : List Int), 6)) else ((field_divide.f k l0 t403).bind fun bt406 => (some (bt406.1, bt406.2, 0))))))
theorem field_Divide.mono : ∀ a0 a1 k, LeO (field_Divide.f k a0 a1) (field_Divide.f (k + 1) a0 a1) := by
  intro a0 a1 k
  unfold field_Divide.f
  repeat' first
      | (with_reducible exact field_divide.mono _ _ _)
      | (with_reducible exact field_poly.mono _ _)
      | (with_reducible exact LeO.refl _)
      | (with_reducible exact LeO.none _)
      | (with_reducible refine LeO.ite ?_ ?_)
      | (with_reducible refine LeO.bind ?_ (fun _ => ?_))
      | exact field_divide.mono _ _ _
      | exact field_poly.mono _ _
      | exact LeO.none _
      | refine LeO.ite ?_ ?_
      | refine LeO.bind ?_ (fun _ => ?_)

/-! ### field_at: function 82 -/
def field_at.step (a1 : Int) (s n : Int) : Option Int := (field_Times.f 9 s a1).map fun t => Go.bits .xor .u8 t n
def field_at.f (l0 : List Int) (a1 : Int) : Option (Int) := if 0 ≤ a1 ∧ a1 ≤ 255 then some (l0.foldr (fun n s => (field_at.step a1 s n).getD 0) 0) else none
theorem field_at.times_some (a b : Int) (h0 : 0 ≤ b) (h1 : b ≤ 255) : ∃ r, field_Times.f 9 a b = some r := by
  have key : ∀ (k : Nat) (a b p : Int), 0 ≤ b → b < 2 ^ k → ∃ r, field_Times.l0 (k + 1) a b p = some r := by
    intro k
    induction k with
    | zero => intro a b p h0 h1; refine ⟨p, ?_⟩; rw [field_Times.l0, if_neg (by omega)]
    | succ k ih =>
      intro a b p h0 h1
      by_cases hb : b > 0
      · rw [field_Times.l0, if_pos hb]
        exact ih _ _ _ (by omega) (by rw [Int.pow_succ] at h1; omega)
      · refine ⟨p, ?_⟩; rw [field_Times.l0, if_neg hb]
  exact key 8 a b 0 h0 (by omega)

/-! ### field_Roots: function 41 -/
def field_Roots.l0 : Nat → List Int → List Int → Int → Option (List Int × Int)
  | 0, _, _, _ => none
  | k + 1, x0, x4, x13 => if x13 < 256 then ((field_at.f x0 ((x13) % 256)).bind fun t419 => (if t419 = 0 then (if x4.length < 140737488355328 then (field_Roots.l0 k x0 (x4 ++ [(x13) % 256]) (wrap64 (x13 + 1))) else (none)) else (field_Roots.l0 k x0 x4 (wrap64 (x13 + 1))))) else (some (x4, 0))
def field_Roots.f (k : Nat) (l0 : List Int) : Option (List Int × Int) := (field_long.f (([l0] : List (List Int)))).bind fun t415 => (if t415 = true then (some (([] : List Int), 1)) else ((field_poly.f k l0).bind fun t416 => (if (t416.length : Int) = 0 then (some (([] : List Int), 6)) else (field_Roots.l0 k l0 ([] : List Int) 0))))
theorem field_Roots.mono_l : ∀ k, (∀ y0 y1 y2, LeO (field_Roots.l0 k y0 y1 y2) (field_Roots.l0 (k + 1) y0 y1 y2))
  | 0 => fun _ _ _ r h => by simp [field_Roots.l0] at h
  | k + 1 => by
    have ih0 := field_Roots.mono_l k
    · intro y0 y1 y2
      unfold field_Roots.l0
      repeat' first
      | (with_reducible exact ih0 _ _ _)
      | (with_reducible exact field_poly.mono _ _)
      | (with_reducible exact LeO.refl _)
      | (with_reducible exact LeO.none _)
      | (with_reducible refine LeO.ite ?_ ?_)
      | (with_reducible refine LeO.bind ?_ (fun _ => ?_))
      | exact ih0 _ _ _
      | exact field_poly.mono _ _
      | exact LeO.none _
      | refine LeO.ite ?_ ?_
      | refine LeO.bind ?_ (fun _ => ?_)
theorem field_Roots.mono : ∀ a0 k, LeO (field_Roots.f k a0) (field_Roots.f (k + 1) a0) := by
  intro a0 k
  have ih0 := field_Roots.mono_l k
  unfold field_Roots.f
  repeat' first
      | (with_reducible exact ih0 _ _ _)
      | (with_reducible exact field_poly.mono _ _)
      | (with_reducible exact LeO.refl _)
      | (with_reducible exact LeO.none _)
      | (with_reducible refine LeO.ite ?_ ?_)
      | (with_reducible refine LeO.bind ?_ (fun _ => ?_))
      | exact ih0 _ _ _
      | exact field_poly.mono _ _
      | exact LeO.none _
      | refine LeO.ite ?_ ?_
      | refine LeO.bind ?_ (fun _ => ?_)

/-! ### field_Through: function 43 -/
def field_Through.l0 : Nat → List Int → List Int → List Int → List (S112) → Int → Int → Option (List Int × Int)
  | 0, _, _, _, _, _, _ => none
  | k + 1, x4, x5, x6, x14, x15, x16 => if x16 < x15 then (if 0 ≤ x16 then (if x16 < (x14.length : Int) then (if 0 ≤ ((rd_T112 x14 x16).f0) then (if ((rd_T112 x14 x16).f0) < 256 then (if ((rd_T112 x14 x16).f0) < (x4.length : Int) then ((some (x4.set (((rd_T112 x14 x16).f0) : Int).toNat (wrap64 ((rd x4 ((rd_T112 x14 x16).f0)) + 1)) : List Int)).bind fun y432 => (if (rd y432 ((rd_T112 x14 x16).f0)) > 1 then (some (([] : List Int), 1)) else ((field_at.f x5 ((rd_T112 x14 x16).f0)).bind fun t434 => ((field_at.f x6 ((rd_T112 x14 x16).f0)).bind fun t435 => ((field_raised.f k t435 254).bind fun t436 => ((field_Times.f k (Go.bits .xor .u8 t434 ((rd_T112 x14 x16).f1)) t436).bind fun t437 => ((field_product.f k x6 (([t437] : List Int))).bind fun t441 => ((field_sum.f k x5 t441).bind fun t444 => ((field_product.f k x6 (([(rd_T112 x14 x16).f0, 1] : List Int))).bind fun t450 => (field_Through.l0 k y432 t444 t450 x14 x15 (wrap64 (x16 + 1)))))))))))) else (none)) else (none)) else (none)) else (none)) else (none)) else (some (x5, 0))
def field_Through.f (k : Nat) (l0 : List (S112)) : Option (List Int × Int) := if (l0.length : Int) > 256 then (some (([] : List Int), 1)) else (field_Through.l0 k (List.replicate 256 0) ([] : List Int) (([1] : List Int)) l0 (l0.length : Int) 0)
theorem field_Through.mono_l : ∀ k, (∀ y0 y1 y2 y3 y4 y5, LeO (field_Through.l0 k y0 y1 y2 y3 y4 y5) (field_Through.l0 (k + 1) y0 y1 y2 y3 y4 y5))
  | 0 => fun _ _ _ _ _ _ r h => by simp [field_Through.l0] at h
  | k + 1 => by
    have ih0 := field_Through.mono_l k
    · intro y0 y1 y2 y3 y4 y5
      unfold field_Through.l0
      repeat' first
      | (with_reducible exact ih0 _ _ _ _ _ _)
      | (with_reducible exact field_Times.mono _ _ _)
      | (with_reducible exact field_product.mono _ _ _)
      | (with_reducible exact field_raised.mono _ _ _)
      | (with_reducible exact field_sum.mono _ _ _)
      | (with_reducible exact LeO.refl _)
      | (with_reducible exact LeO.none _)
      | (with_reducible refine LeO.ite ?_ ?_)
      | (with_reducible refine LeO.bind ?_ (fun _ => ?_))
      | exact ih0 _ _ _ _ _ _
      | exact field_Times.mono _ _ _
      | exact field_product.mono _ _ _
      | exact field_raised.mono _ _ _
      | exact field_sum.mono _ _ _
      | exact LeO.none _
      | refine LeO.ite ?_ ?_
      | refine LeO.bind ?_ (fun _ => ?_)
theorem field_Through.mono : ∀ a0 k, LeO (field_Through.f k a0) (field_Through.f (k + 1) a0) := by
  intro a0 k
  have ih0 := field_Through.mono_l k
  unfold field_Through.f
  repeat' first
      | (with_reducible exact ih0 _ _ _ _ _ _)
      | (with_reducible exact field_Times.mono _ _ _)
      | (with_reducible exact field_product.mono _ _ _)
      | (with_reducible exact field_raised.mono _ _ _)
      | (with_reducible exact field_sum.mono _ _ _)
      | (with_reducible exact LeO.refl _)
      | (with_reducible exact LeO.none _)
      | (with_reducible refine LeO.ite ?_ ?_)
      | (with_reducible refine LeO.bind ?_ (fun _ => ?_))
      | exact ih0 _ _ _ _ _ _
      | exact field_Times.mono _ _ _
      | exact field_product.mono _ _ _
      | exact field_raised.mono _ _ _
      | exact field_sum.mono _ _ _
      | exact LeO.none _
      | refine LeO.ite ?_ ?_
      | refine LeO.bind ?_ (fun _ => ?_)
def field_Through.T12 : Bool × List (List Nat × List Nat) := (true, [([], []), ([], []), ([1], [1]), ([0, 2], [0, 2]), ([], []), ([4], [4]), ([3, 5], [3, 5]), ([], []), ([], []), ([8], [8]), ([7, 9, 3], [7, 9]), ([10, 10], [10]), ([6, 11, 11], [6, 11]), ([12, 12, 0, 1, 2, 3, 4, 5, 6, 7, 8, 9, 10, 11, 12], [12])])
def field_Through.B12 : List Nat := [0, 0, 2, 7, 0, 16, 63, 0, 0, 256, 911, 1935, 4095, 8191]
theorem field_Through.tab12 : rtab .any (opsOf Try.f43 12) = field_Through.T12 := by kernel_rfl
theorem field_Through.bits12 : waitsOk field_Through.T12.2 field_Through.B12 = true := by kernel_rfl

/-! ### field_Gcd: function 44 -/
def field_Gcd.l0 : Nat → List Int → List Int → Option (List Int × Int)
  | 0, _, _ => none
  | k + 1, x0, x1 => if (x1.length : Int) > 0 then ((field_divide.f k x0 x1).bind fun bt463 => (field_Gcd.l0 k x1 bt463.2)) else (if (x0.length : Int) = 0 then (some (([] : List Int), 0)) else (if 0 ≤ (wrap64 ((x0.length : Int) - 1)) then (if (wrap64 ((x0.length : Int) - 1)) < (x0.length : Int) then ((field_raised.f k (rd x0 (wrap64 ((x0.length : Int) - 1))) 254).bind fun t470 => ((field_product.f k x0 (([t470] : List Int))).bind fun t474 => (some (t474, 0)))) else (none)) else (none)))
def field_Gcd.f (k : Nat) (l0 : List Int) (l1 : List Int) : Option (List Int × Int) := (field_long.f (([l0, l1] : List (List Int)))).bind fun t456 => (if t456 = true then (some (([] : List Int), 1)) else ((field_poly.f k l0).bind fun t457 => ((field_poly.f k l1).bind fun t460 => (field_Gcd.l0 k t457 t460))))
theorem field_Gcd.mono_l : ∀ k, (∀ y0 y1, LeO (field_Gcd.l0 k y0 y1) (field_Gcd.l0 (k + 1) y0 y1))
  | 0 => fun _ _ r h => by simp [field_Gcd.l0] at h
  | k + 1 => by
    have ih0 := field_Gcd.mono_l k
    · intro y0 y1
      unfold field_Gcd.l0
      repeat' first
      | (with_reducible exact ih0 _ _)
      | (with_reducible exact field_divide.mono _ _ _)
      | (with_reducible exact field_poly.mono _ _)
      | (with_reducible exact field_product.mono _ _ _)
      | (with_reducible exact field_raised.mono _ _ _)
      | (with_reducible exact LeO.refl _)
      | (with_reducible exact LeO.none _)
      | (with_reducible refine LeO.ite ?_ ?_)
      | (with_reducible refine LeO.bind ?_ (fun _ => ?_))
      | exact ih0 _ _
      | exact field_divide.mono _ _ _
      | exact field_poly.mono _ _
      | exact field_product.mono _ _ _
      | exact field_raised.mono _ _ _
      | exact LeO.none _
      | refine LeO.ite ?_ ?_
      | refine LeO.bind ?_ (fun _ => ?_)
theorem field_Gcd.mono : ∀ a0 a1 k, LeO (field_Gcd.f k a0 a1) (field_Gcd.f (k + 1) a0 a1) := by
  intro a0 a1 k
  have ih0 := field_Gcd.mono_l k
  unfold field_Gcd.f
  repeat' first
      | (with_reducible exact ih0 _ _)
      | (with_reducible exact field_divide.mono _ _ _)
      | (with_reducible exact field_poly.mono _ _)
      | (with_reducible exact field_product.mono _ _ _)
      | (with_reducible exact field_raised.mono _ _ _)
      | (with_reducible exact LeO.refl _)
      | (with_reducible exact LeO.none _)
      | (with_reducible refine LeO.ite ?_ ?_)
      | (with_reducible refine LeO.bind ?_ (fun _ => ?_))
      | exact ih0 _ _
      | exact field_divide.mono _ _ _
      | exact field_poly.mono _ _
      | exact field_product.mono _ _ _
      | exact field_raised.mono _ _ _
      | exact LeO.none _
      | refine LeO.ite ?_ ?_
      | refine LeO.bind ?_ (fun _ => ?_)

/-! ### field_At: function 45 -/
def field_At.f (l0 : List Int) (a1 : Int) : Option (Int × Int) := (field_long.f (([l0] : List (List Int)))).bind fun t480 => (if t480 = true then (some (0, 1)) else ((field_at.f l0 a1).bind fun t481 => (some (t481, 0))))

/-! ### field_Slope: function 46 -/
def field_Slope.l0 : Nat → List Int → Int → Int → Option (List Int × Int)
  | 0, _, _, _ => none
  | k + 1, x4, x16, x17 => if x17 < x16 then (if (Go.bits .and .i64 x17 1) > 0 then (if 0 ≤ x17 then (if x17 < (x4.length : Int) then (field_Slope.l0 k (x4.set (x17 : Int).toNat 0) x16 (wrap64 (x17 + 1))) else (none)) else (none)) else (field_Slope.l0 k x4 x16 (wrap64 (x17 + 1)))) else ((field_poly.f k x4).bind fun t495 => (some (t495, 0)))
def field_Slope.f (k : Nat) (l0 : List Int) : Option (List Int × Int) := (field_long.f (([l0] : List (List Int)))).bind fun t485 => (if t485 = true then (some (([] : List Int), 1)) else (if 0 ≤ (mn 1 (l0.length : Int)) then (if (mn 1 (l0.length : Int)) ≤ (l0.length : Int) then ((slices_Clone_uint8_uint8.f (l0.drop ((mn 1 (l0.length : Int)) : Int).toNat)).bind fun t491 => (field_Slope.l0 k t491 (t491.length : Int) 0)) else (none)) else (none)))
theorem field_Slope.mono_l : ∀ k, (∀ y0 y1 y2, LeO (field_Slope.l0 k y0 y1 y2) (field_Slope.l0 (k + 1) y0 y1 y2))
  | 0 => fun _ _ _ r h => by simp [field_Slope.l0] at h
  | k + 1 => by
    have ih0 := field_Slope.mono_l k
    · intro y0 y1 y2
      unfold field_Slope.l0
      repeat' first
      | (with_reducible exact ih0 _ _ _)
      | (with_reducible exact field_poly.mono _ _)
      | (with_reducible exact LeO.refl _)
      | (with_reducible exact LeO.none _)
      | (with_reducible refine LeO.ite ?_ ?_)
      | (with_reducible refine LeO.bind ?_ (fun _ => ?_))
      | exact ih0 _ _ _
      | exact field_poly.mono _ _
      | exact LeO.none _
      | refine LeO.ite ?_ ?_
      | refine LeO.bind ?_ (fun _ => ?_)
theorem field_Slope.mono : ∀ a0 k, LeO (field_Slope.f k a0) (field_Slope.f (k + 1) a0) := by
  intro a0 k
  have ih0 := field_Slope.mono_l k
  unfold field_Slope.f
  repeat' first
      | (with_reducible exact ih0 _ _ _)
      | (with_reducible exact field_poly.mono _ _)
      | (with_reducible exact LeO.refl _)
      | (with_reducible exact LeO.none _)
      | (with_reducible refine LeO.ite ?_ ?_)
      | (with_reducible refine LeO.bind ?_ (fun _ => ?_))
      | exact ih0 _ _ _
      | exact field_poly.mono _ _
      | exact LeO.none _
      | refine LeO.ite ?_ ?_
      | refine LeO.bind ?_ (fun _ => ?_)

/-! ### field_Power: function 47 -/
def field_Power.j0 : Nat → Int → Int → Bool → Option (Int × Int)
  | 0, _, _, _ => none
  | k + 1, x0, x1, x6 => if x6 = true then (some (0, 6)) else (if x0 = 0 then (if x1 > 0 then (some (0, 0)) else ((field_raised.f k x0 (Int.tmod (wrap64 ((Int.tmod x1 255) + 255)) 255)).bind fun t498 => (some (t498, 0)))) else ((field_raised.f k x0 (Int.tmod (wrap64 ((Int.tmod x1 255) + 255)) 255)).bind fun t499 => (some (t499, 0))))
def field_Power.f (k : Nat) (a0 : Int) (a1 : Int) : Option (Int × Int) := if a0 = 0 then (field_Power.j0 k a0 a1 (decide (a1 < 0))) else (field_Power.j0 k a0 a1 false)
theorem field_Power.mono_l : ∀ k, (∀ y0 y1 y2, LeO (field_Power.j0 k y0 y1 y2) (field_Power.j0 (k + 1) y0 y1 y2))
  | 0 => fun _ _ _ r h => by simp [field_Power.j0] at h
  | k + 1 => by
    have ih0 := field_Power.mono_l k
    · intro y0 y1 y2
      unfold field_Power.j0
      repeat' first
      | (with_reducible exact ih0 _ _ _)
      | (with_reducible exact field_raised.mono _ _ _)
      | (with_reducible exact LeO.refl _)
      | (with_reducible exact LeO.none _)
      | (with_reducible refine LeO.ite ?_ ?_)
      | (with_reducible refine LeO.bind ?_ (fun _ => ?_))
      | exact ih0 _ _ _
      | exact field_raised.mono _ _ _
      | exact LeO.none _
      | refine LeO.ite ?_ ?_
      | refine LeO.bind ?_ (fun _ => ?_)
theorem field_Power.mono : ∀ a0 a1 k, LeO (field_Power.f k a0 a1) (field_Power.f (k + 1) a0 a1) := by
  intro a0 a1 k
  have ih0 := field_Power.mono_l k
  unfold field_Power.f
  repeat' first
      | (with_reducible exact ih0 _ _ _)
      | (with_reducible exact field_raised.mono _ _ _)
      | (with_reducible exact LeO.refl _)
      | (with_reducible exact LeO.none _)
      | (with_reducible refine LeO.ite ?_ ?_)
      | (with_reducible refine LeO.bind ?_ (fun _ => ?_))
      | exact ih0 _ _ _
      | exact field_raised.mono _ _ _
      | exact LeO.none _
      | refine LeO.ite ?_ ?_
      | refine LeO.bind ?_ (fun _ => ?_)

/-! ### foghornref18_Same: function 85 -/
def foghornref18_Same.l0 : Nat → List Int → List Int → Int → Option (Bool)
  | 0, _, _, _ => none
  | k + 1, x0, x1, x5 => if x5 < (x0.length : Int) then (if 0 ≤ x5 then (if x5 < (x1.length : Int) then (if (rd x0 x5) = (rd x1 x5) then (foghornref18_Same.l0 k x0 x1 (wrap64 (x5 + 1))) else (some false)) else (none)) else (none)) else (some true)
def foghornref18_Same.f (k : Nat) (l0 : List Int) (l1 : List Int) : Option (Bool) := if (l0.length : Int) = (l1.length : Int) then (foghornref18_Same.l0 k l0 l1 0) else (some false)
theorem foghornref18_Same.mono_l : ∀ k, (∀ y0 y1 y2, LeO (foghornref18_Same.l0 k y0 y1 y2) (foghornref18_Same.l0 (k + 1) y0 y1 y2))
  | 0 => fun _ _ _ r h => by simp [foghornref18_Same.l0] at h
  | k + 1 => by
    have ih0 := foghornref18_Same.mono_l k
    · intro y0 y1 y2
      unfold foghornref18_Same.l0
      repeat' first
      | (with_reducible exact ih0 _ _ _)
      | (with_reducible exact LeO.refl _)
      | (with_reducible exact LeO.none _)
      | (with_reducible refine LeO.ite ?_ ?_)
      | (with_reducible refine LeO.bind ?_ (fun _ => ?_))
      | exact ih0 _ _ _
      | exact LeO.none _
      | refine LeO.ite ?_ ?_
      | refine LeO.bind ?_ (fun _ => ?_)
theorem foghornref18_Same.mono : ∀ a0 a1 k, LeO (foghornref18_Same.f k a0 a1) (foghornref18_Same.f (k + 1) a0 a1) := by
  intro a0 a1 k
  have ih0 := foghornref18_Same.mono_l k
  unfold foghornref18_Same.f
  repeat' first
      | (with_reducible exact ih0 _ _ _)
      | (with_reducible exact LeO.refl _)
      | (with_reducible exact LeO.none _)
      | (with_reducible refine LeO.ite ?_ ?_)
      | (with_reducible refine LeO.bind ?_ (fun _ => ?_))
      | exact ih0 _ _ _
      | exact LeO.none _
      | refine LeO.ite ?_ ?_
      | refine LeO.bind ?_ (fun _ => ?_)

/-! ### foghornlaw18_awake: function 48 -/
def foghornlaw18_awake.f (k : Nat)  : Option (Bool) := (field_Product.f k (([1, 1] : List Int)) (([1, 1] : List Int))).bind fun bt508 => ((field_Times.f k 2 128).bind fun t512 => (if t512 = 29 then (if bt508.2 = 0 then ((foghornref18_Same.f k bt508.1 (([1, 0, 1] : List Int))).bind fun t516 => (some t516)) else (some false)) else (some false)))
theorem foghornlaw18_awake.mono : ∀ k, LeO (foghornlaw18_awake.f k ) (foghornlaw18_awake.f (k + 1) ) := by
  intro  k
  unfold foghornlaw18_awake.f
  repeat' first
      | (with_reducible exact field_Product.mono _ _ _)
      | (with_reducible exact field_Times.mono _ _ _)
      | (with_reducible exact foghornref18_Same.mono _ _ _)
      | (with_reducible exact LeO.refl _)
      | (with_reducible exact LeO.none _)
      | (with_reducible refine LeO.ite ?_ ?_)
      | (with_reducible refine LeO.bind ?_ (fun _ => ?_))
      | exact field_Product.mono _ _ _
      | exact field_Times.mono _ _ _
      | exact foghornref18_Same.mono _ _ _
      | exact LeO.none _
      | refine LeO.ite ?_ ?_
      | refine LeO.bind ?_ (fun _ => ?_)

/-! ### foghornlaw18_FieldNone: function 10 -/
def foghornlaw18_FieldNone.f (k : Nat)  : Option (Bool) := if 512 ≤ 281474976710656 then ((some (List.replicate 512 0 : List Int)).bind fun y517 => (if 511 < (y517.length : Int) then ((some (y517.set (511 : Int).toNat 1 : List Int)).bind fun y520 => (if 513 ≤ 281474976710656 then ((field_Sum.f k (List.replicate 513 0) ([] : List Int)).bind fun bt524 => ((field_Sum.f k ([] : List Int) ([] : List Int)).bind fun bt528 => ((field_Product.f k y520 (([0, 1] : List Int))).bind fun bt535 => ((field_Product.f k y520 (([5] : List Int))).bind fun bt542 => ((field_Product.f k y520 ([] : List Int)).bind fun bt546 => ((field_Product.f k (List.replicate 512 0) (List.replicate 512 0)).bind fun bt556 => (if 9 ≤ 281474976710656 then ((field_Divide.f k ([] : List Int) (List.replicate 9 0)).bind fun bt563 => ((field_Roots.f k (List.replicate 9 0)).bind fun bt573 => ((field_Roots.f k (([1] : List Int))).bind fun bt580 => ((field_Of.f k (List.replicate 512 0)).bind fun bt587 => (if 511 ≤ 281474976710656 then ((field_Of.f k (List.replicate 511 0)).bind fun bt594 => ((field_Through.f k ([] : List (S112))).bind fun bt598 => (if 3 ≤ 281474976710656 then ((field_Gcd.f k ([] : List Int) (List.replicate 3 0)).bind fun bt605 => ((field_At.f (List.replicate 513 0) 0).bind fun bt612 => ((field_Slope.f k (List.replicate 513 0)).bind fun bt617 => ((field_Power.f k 0 0).bind fun bt621 => (if bt524.2 = 1 then (if (bt528.1.length : Int) = 0 then (if bt528.2 = 0 then (if bt535.2 = 1 then (if (bt542.1.length : Int) = 512 then (if bt542.2 = 0 then (if (bt546.1.length : Int) = 0 then (if bt546.2 = 0 then (if (bt556.1.length : Int) = 0 then (if bt556.2 = 0 then (if bt563.2.2 = 6 then (if bt573.2 = 6 then (if (bt580.1.length : Int) = 0 then (if bt580.2 = 0 then (if bt587.2 = 1 then (if (bt594.1.length : Int) = 512 then (if bt594.2 = 0 then (if (bt598.1.length : Int) = 0 then (if bt598.2 = 0 then (if (bt605.1.length : Int) = 0 then (if bt605.2 = 0 then (if bt612.2 = 1 then (if bt617.2 = 1 then (if bt621.1 = 1 then (if bt621.2 = 0 then ((foghornlaw18_awake.f k).bind fun t623 => (some t623)) else (some false)) else (some false)) else (some false)) else (some false)) else (some false)) else (some false)) else (some false)) else (some false)) else (some false)) else (some false)) else (some false)) else (some false)) else (some false)) else (some false)) else (some false)) else (some false)) else (some false)) else (some false)) else (some false)) else (some false)) else (some false)) else (some false)) else (some false)) else (some false)) else (some false)))))) else (none)))) else (none)))))) else (none)))))))) else (none))) else (none))) else (none)
theorem foghornlaw18_FieldNone.mono : ∀ k, LeO (foghornlaw18_FieldNone.f k ) (foghornlaw18_FieldNone.f (k + 1) ) := by
  intro  k
  unfold foghornlaw18_FieldNone.f
  repeat' first
      | (with_reducible exact field_Divide.mono _ _ _)
      | (with_reducible exact field_Gcd.mono _ _ _)
      | (with_reducible exact field_Of.mono _ _)
      | (with_reducible exact field_Power.mono _ _ _)
      | (with_reducible exact field_Product.mono _ _ _)
      | (with_reducible exact field_Roots.mono _ _)
      | (with_reducible exact field_Slope.mono _ _)
      | (with_reducible exact field_Sum.mono _ _ _)
      | (with_reducible exact field_Through.mono _ _)
      | (with_reducible exact foghornlaw18_awake.mono _)
      | (with_reducible exact LeO.refl _)
      | (with_reducible exact LeO.none _)
      | (with_reducible refine LeO.ite ?_ ?_)
      | (with_reducible refine LeO.bind ?_ (fun _ => ?_))
      | exact field_Divide.mono _ _ _
      | exact field_Gcd.mono _ _ _
      | exact field_Of.mono _ _
      | exact field_Power.mono _ _ _
      | exact field_Product.mono _ _ _
      | exact field_Roots.mono _ _
      | exact field_Slope.mono _ _
      | exact field_Sum.mono _ _ _
      | exact field_Through.mono _ _
      | exact foghornlaw18_awake.mono _
      | exact LeO.none _
      | refine LeO.ite ?_ ?_
      | refine LeO.bind ?_ (fun _ => ?_)
def foghornlaw18_FieldNone.T8 : Bool × List (List Nat × List Nat) := (true, [([], []), ([], []), ([0, 1], [0, 1]), ([2], [2]), ([3], [3]), ([3], [3]), ([4, 2, 0, 1, 2, 3, 4], [4]), ([5, 6, 0, 1, 2, 3, 4, 5, 6], [5])])
def foghornlaw18_FieldNone.B8 : List Nat := [0, 0, 3, 7, 15, 15, 31, 127]
theorem foghornlaw18_FieldNone.tab8 : rtab .any (opsOf Try.f10 8) = foghornlaw18_FieldNone.T8 := by kernel_rfl
theorem foghornlaw18_FieldNone.bits8 : waitsOk foghornlaw18_FieldNone.T8.2 foghornlaw18_FieldNone.B8 = true := by kernel_rfl
/-- THE ONE PURE STATEMENT of foghornlaw18_FieldNone: yours. -/
def foghornlaw18_FieldNone.Pure : Prop := ∃ k, foghornlaw18_FieldNone.f k  = some true

end Go.Proofs.Ytncoakokdajibaa.Q
