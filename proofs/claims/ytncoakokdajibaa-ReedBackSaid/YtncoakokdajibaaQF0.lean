-- Printed by myprint.py (ours) over the kit's printer, out of the translation.
import Derived.Test.YtncoakokdajibaaQ0
namespace Go.Proofs.Ytncoakokdajibaa.Q
open Go.RowKit Go.Proofs.YtncoakokdajibaaW.PrintWords Go.Proofs.YtncoakokdajibaaW.PrintLast Go.Proofs.YtncoakokdajibaaW.PrintMore
attribute [local go_sem] ArrW.ptrOf_slice max2_int min2_int max_two min_two max_three min_three max_four min_four   -- for this text's walks alone
set_option linter.unusedVariables false
set_option linter.unusedSimpArgs false

/-! ### field_Times: function 64 -/
def field_Times.l0 : Nat → Int → Int → Int → Option (Int)
  | 0, _, _, _ => none
  | k + 1, x0, x1, x5 => if x1 > 0 then (field_Times.l0 k (Go.bits .xor .u8 ((x0 * 2) % 256) (((x0 / 128) * 29) % 256)) (x1 / 2) (Go.bits .xor .u8 x5 ((x0 * (Go.bits .and .u8 x1 1)) % 256))) else (some x5)
def field_Times.f (k : Nat) (a0 : Int) (a1 : Int) : Option (Int) := field_Times.l0 k a0 a1 0
theorem field_Times.mono_l : ∀ k, (∀ y0 y1 y2, LeO (field_Times.l0 k y0 y1 y2) (field_Times.l0 (k + 1) y0 y1 y2))
  | 0 => fun _ _ _ r h => by simp [field_Times.l0] at h
  | k + 1 => by
    have ih0 := field_Times.mono_l k
    · intro y0 y1 y2
      unfold field_Times.l0
      repeat' first
      | (with_reducible exact ih0 _ _ _)
      | (with_reducible exact LeO.refl _)
      | (with_reducible exact LeO.none _)
      | (with_reducible refine LeO.ite ?_ ?_)
      | (with_reducible refine LeO.bind ?_ (fun _ => ?_))
      | exact ih0 _ _ _
      | exact LeO.none _
      | refine LeO.ite ?_ ?_
      | refine LeO.bind ?_ (fun _ => ?_)
theorem field_Times.mono : ∀ a0 a1 k, LeO (field_Times.f k a0 a1) (field_Times.f (k + 1) a0 a1) := by
  intro a0 a1 k
  have ih0 := field_Times.mono_l k
  unfold field_Times.f
  repeat' first
      | (with_reducible exact ih0 _ _ _)
      | (with_reducible exact LeO.refl _)
      | (with_reducible exact LeO.none _)
      | (with_reducible refine LeO.ite ?_ ?_)
      | (with_reducible refine LeO.bind ?_ (fun _ => ?_))
      | exact ih0 _ _ _
      | exact LeO.none _
      | refine LeO.ite ?_ ?_
      | refine LeO.bind ?_ (fun _ => ?_)

/-! ### slices_Clone_uint8_uint8: function 84 -/
def slices_Clone_uint8_uint8.f (l0 : List Int) : Option (List Int) := if l0.length < 140737488355328 then some l0 else none

/-! ### field_poly: function 79 -/
def field_poly.l0 : Nat → List Int → Int → Option (List Int)
  | 0, _, _ => none
  | k + 1, x0, x3 => if x3 > 0 then (if 0 ≤ (wrap64 (x3 - 1)) then (if (wrap64 (x3 - 1)) < (x0.length : Int) then (if (rd x0 (wrap64 (x3 - 1))) = 0 then (field_poly.l0 k x0 (wrap64 (x3 - 1))) else (if 0 ≤ x3 then (if x3 ≤ (x0.length : Int) then ((slices_Clone_uint8_uint8.f (x0.take (x3 : Int).toNat)).bind fun t103 => (some t103)) else (none)) else (none))) else (none)) else (none)) else (if 0 ≤ x3 then (if x3 ≤ (x0.length : Int) then ((slices_Clone_uint8_uint8.f (x0.take (x3 : Int).toNat)).bind fun t107 => (some t107)) else (none)) else (none))
def field_poly.f (k : Nat) (l0 : List Int) : Option (List Int) := field_poly.l0 k l0 (l0.length : Int)
theorem field_poly.mono_l : ∀ k, (∀ y0 y1, LeO (field_poly.l0 k y0 y1) (field_poly.l0 (k + 1) y0 y1))
  | 0 => fun _ _ r h => by simp [field_poly.l0] at h
  | k + 1 => by
    have ih0 := field_poly.mono_l k
    · intro y0 y1
      unfold field_poly.l0
      repeat' first
      | (with_reducible exact ih0 _ _)
      | (with_reducible exact LeO.refl _)
      | (with_reducible exact LeO.none _)
      | (with_reducible refine LeO.ite ?_ ?_)
      | (with_reducible refine LeO.bind ?_ (fun _ => ?_))
      | exact ih0 _ _
      | exact LeO.none _
      | refine LeO.ite ?_ ?_
      | refine LeO.bind ?_ (fun _ => ?_)
theorem field_poly.mono : ∀ a0 k, LeO (field_poly.f k a0) (field_poly.f (k + 1) a0) := by
  intro a0 k
  have ih0 := field_poly.mono_l k
  unfold field_poly.f
  repeat' first
      | (with_reducible exact ih0 _ _)
      | (with_reducible exact LeO.refl _)
      | (with_reducible exact LeO.none _)
      | (with_reducible refine LeO.ite ?_ ?_)
      | (with_reducible refine LeO.bind ?_ (fun _ => ?_))
      | exact ih0 _ _
      | exact LeO.none _
      | refine LeO.ite ?_ ?_
      | refine LeO.bind ?_ (fun _ => ?_)

/-! ### field_product: function 80 -/
mutual
def field_product.l0 : Nat → List Int → List Int → List Int → Int → Int → Option (List Int)
  | 0, _, _, _, _, _ => none
  | k + 1, x1, x5, x16, x17, x18 => if x18 < x17 then (if 0 ≤ x18 then (if x18 < (x16.length : Int) then (field_product.l1 k x1 x5 x18 (rd x16 x18) x16 x17 x18 x1 (x1.length : Int) 0) else (none)) else (none)) else ((field_poly.f k x5).bind fun t113 => (some t113))
def field_product.l1 : Nat → List Int → List Int → Int → Int → List Int → Int → Int → List Int → Int → Int → Option (List Int)
  | 0, _, _, _, _, _, _, _, _, _, _ => none
  | k + 1, x1, x5, x6, x7, x16, x17, x18, x23, x24, x25 => if x25 < x24 then (if 0 ≤ x25 then (if x25 < (x23.length : Int) then (if 0 ≤ (wrap64 (x6 + x25)) then (if (wrap64 (x6 + x25)) < (x5.length : Int) then ((field_Times.f k x7 (rd x23 x25)).bind fun t119 => (field_product.l1 k x1 (x5.set ((wrap64 (x6 + x25)) : Int).toNat (Go.bits .xor .u8 (rd x5 (wrap64 (x6 + x25))) t119)) x6 x7 x16 x17 x18 x23 x24 (wrap64 (x25 + 1)))) else (none)) else (none)) else (none)) else (none)) else (field_product.l0 k x1 x5 x16 x17 (wrap64 (x18 + 1)))
end
def field_product.f (k : Nat) (l0 : List Int) (l1 : List Int) : Option (List Int) := if 0 ≤ (wrap64 ((l0.length : Int) + (l1.length : Int))) then (if (wrap64 ((l0.length : Int) + (l1.length : Int)) : Int).toNat ≤ 281474976710656 then (field_product.l0 k l1 (List.replicate (wrap64 ((l0.length : Int) + (l1.length : Int)) : Int).toNat 0) l0 (l0.length : Int) 0) else (none)) else (none)
theorem field_product.mono_l : ∀ k, (∀ y0 y1 y2 y3 y4, LeO (field_product.l0 k y0 y1 y2 y3 y4) (field_product.l0 (k + 1) y0 y1 y2 y3 y4)) ∧ (∀ y0 y1 y2 y3 y4 y5 y6 y7 y8 y9, LeO (field_product.l1 k y0 y1 y2 y3 y4 y5 y6 y7 y8 y9) (field_product.l1 (k + 1) y0 y1 y2 y3 y4 y5 y6 y7 y8 y9))
  | 0 => ⟨fun _ _ _ _ _ r h => by simp [field_product.l0] at h, fun _ _ _ _ _ _ _ _ _ _ r h => by simp [field_product.l1] at h⟩
  | k + 1 => by
    obtain ⟨ih0, ih1⟩ := field_product.mono_l k
    refine ⟨?_, ?_⟩
    · intro y0 y1 y2 y3 y4
      unfold field_product.l0
      repeat' first
      | (with_reducible exact ih0 _ _ _ _ _)
      | (with_reducible exact ih1 _ _ _ _ _ _ _ _ _ _)
      | (with_reducible exact field_Times.mono _ _ _)
      | (with_reducible exact field_poly.mono _ _)
      | (with_reducible exact LeO.refl _)
      | (with_reducible exact LeO.none _)
      | (with_reducible refine LeO.ite ?_ ?_)
      | (with_reducible refine LeO.bind ?_ (fun _ => ?_))
      | exact ih0 _ _ _ _ _
      | exact ih1 _ _ _ _ _ _ _ _ _ _
      | exact field_Times.mono _ _ _
      | exact field_poly.mono _ _
      | exact LeO.none _
      | refine LeO.ite ?_ ?_
      | refine LeO.bind ?_ (fun _ => ?_)
    · intro y0 y1 y2 y3 y4 y5 y6 y7 y8 y9
      unfold field_product.l1
      repeat' first
      | (with_reducible exact ih0 _ _ _ _ _)
      | (with_reducible exact ih1 _ _ _ _ _ _ _ _ _ _)
      | (with_reducible exact field_Times.mono _ _ _)
      | (with_reducible exact field_poly.mono _ _)
      | (with_reducible exact LeO.refl _)
      | (with_reducible exact LeO.none _)
      | (with_reducible refine LeO.ite ?_ ?_)
      | (with_reducible refine LeO.bind ?_ (fun _ => ?_))
      | exact ih0 _ _ _ _ _
      | exact ih1 _ _ _ _ _ _ _ _ _ _
      | exact field_Times.mono _ _ _
      | exact field_poly.mono _ _
      | exact LeO.none _
      | refine LeO.ite ?_ ?_
      | refine LeO.bind ?_ (fun _ => ?_)
theorem field_product.mono : ∀ a0 a1 k, LeO (field_product.f k a0 a1) (field_product.f (k + 1) a0 a1) := by
  intro a0 a1 k
  obtain ⟨ih0, ih1⟩ := field_product.mono_l k
  unfold field_product.f
  repeat' first
      | (with_reducible exact ih0 _ _ _ _ _)
      | (with_reducible exact ih1 _ _ _ _ _ _ _ _ _ _)
      | (with_reducible exact field_Times.mono _ _ _)
      | (with_reducible exact field_poly.mono _ _)
      | (with_reducible exact LeO.refl _)
      | (with_reducible exact LeO.none _)
      | (with_reducible refine LeO.ite ?_ ?_)
      | (with_reducible refine LeO.bind ?_ (fun _ => ?_))
      | exact ih0 _ _ _ _ _
      | exact ih1 _ _ _ _ _ _ _ _ _ _
      | exact field_Times.mono _ _ _
      | exact field_poly.mono _ _
      | exact LeO.none _
      | refine LeO.ite ?_ ?_
      | refine LeO.bind ?_ (fun _ => ?_)
def field_product.T8 : Bool × List (List Nat × List Nat) := (true, [([], []), ([], []), ([], []), ([1, 2], [1, 2]), ([0, 3], [0, 3]), ([4], [4]), ([], []), ([], []), ([6, 7], [6, 7]), ([5, 8], [5, 8]), ([0, 3, 0, 1, 2, 3, 4, 5, 6, 7, 8, 9], [0, 3]), ([10, 9, 8, 0, 1, 2, 3, 4, 5, 6, 7, 8, 9], [9, 10])])
def field_product.B8 : List Nat := [0, 0, 0, 6, 15, 31, 0, 0, 192, 511, 1023, 2047]
theorem field_product.tab8 : rtab .any (opsOf Try.f80 8) = field_product.T8 := by kernel_rfl
theorem field_product.bits8 : waitsOk field_product.T8.2 field_product.B8 = true := by kernel_rfl

/-! ### field_Of: function 42 -/
def field_Of.l0 : Nat → List Int → List Int → Int → Int → Option (List Int × Int)
  | 0, _, _, _, _ => none
  | k + 1, x4, x11, x12, x13 => if x13 < x12 then (if 0 ≤ x13 then (if x13 < (x11.length : Int) then ((field_product.f k x4 (([rd x11 x13, 1] : List Int))).bind fun t128 => (field_Of.l0 k t128 x11 x12 (wrap64 (x13 + 1)))) else (none)) else (none)) else (some (x4, 0))
def field_Of.f (k : Nat) (l0 : List Int) : Option (List Int × Int) := if (l0.length : Int) ≥ 512 then (some (([] : List Int), 1)) else (field_Of.l0 k (([1] : List Int)) l0 (l0.length : Int) 0)
theorem field_Of.mono_l : ∀ k, (∀ y0 y1 y2 y3, LeO (field_Of.l0 k y0 y1 y2 y3) (field_Of.l0 (k + 1) y0 y1 y2 y3))
  | 0 => fun _ _ _ _ r h => by simp [field_Of.l0] at h
  | k + 1 => by
    have ih0 := field_Of.mono_l k
    · intro y0 y1 y2 y3
      unfold field_Of.l0
      repeat' first
      | (with_reducible exact ih0 _ _ _ _)
      | (with_reducible exact field_product.mono _ _ _)
      | (with_reducible exact LeO.refl _)
      | (with_reducible exact LeO.none _)
      | (with_reducible refine LeO.ite ?_ ?_)
      | (with_reducible refine LeO.bind ?_ (fun _ => ?_))
      | exact ih0 _ _ _ _
      | exact field_product.mono _ _ _
      | exact LeO.none _
      | refine LeO.ite ?_ ?_
      | refine LeO.bind ?_ (fun _ => ?_)
theorem field_Of.mono : ∀ a0 k, LeO (field_Of.f k a0) (field_Of.f (k + 1) a0) := by
  intro a0 k
  have ih0 := field_Of.mono_l k
  unfold field_Of.f
  repeat' first
      | (with_reducible exact ih0 _ _ _ _)
      | (with_reducible exact field_product.mono _ _ _)
      | (with_reducible exact LeO.refl _)
      | (with_reducible exact LeO.none _)
      | (with_reducible refine LeO.ite ?_ ?_)
      | (with_reducible refine LeO.bind ?_ (fun _ => ?_))
      | exact ih0 _ _ _ _
      | exact field_product.mono _ _ _
      | exact LeO.none _
      | refine LeO.ite ?_ ?_
      | refine LeO.bind ?_ (fun _ => ?_)

/-! ### field_raised: function 83 -/
def field_raised.l0 : Nat → Int → Int → Int → Option (Int)
  | 0, _, _, _ => none
  | k + 1, x0, x1, x5 => if x1 > 0 then (if (Go.bits .and .i64 x1 1) > 0 then ((field_Times.f k x5 x0).bind fun t131 => ((field_Times.f k x0 x0).bind fun t132 => (field_raised.l0 k t132 (x1 / 2) t131))) else ((field_Times.f k x0 x0).bind fun t133 => (field_raised.l0 k t133 (x1 / 2) x5))) else (some x5)
def field_raised.f (k : Nat) (a0 : Int) (a1 : Int) : Option (Int) := field_raised.l0 k a0 a1 1
theorem field_raised.mono_l : ∀ k, (∀ y0 y1 y2, LeO (field_raised.l0 k y0 y1 y2) (field_raised.l0 (k + 1) y0 y1 y2))
  | 0 => fun _ _ _ r h => by simp [field_raised.l0] at h
  | k + 1 => by
    have ih0 := field_raised.mono_l k
    · intro y0 y1 y2
      unfold field_raised.l0
      repeat' first
      | (with_reducible exact ih0 _ _ _)
      | (with_reducible exact field_Times.mono _ _ _)
      | (with_reducible exact LeO.refl _)
      | (with_reducible exact LeO.none _)
      | (with_reducible refine LeO.ite ?_ ?_)
      | (with_reducible refine LeO.bind ?_ (fun _ => ?_))
      | exact ih0 _ _ _
      | exact field_Times.mono _ _ _
      | exact LeO.none _
      | refine LeO.ite ?_ ?_
      | refine LeO.bind ?_ (fun _ => ?_)
theorem field_raised.mono : ∀ a0 a1 k, LeO (field_raised.f k a0 a1) (field_raised.f (k + 1) a0 a1) := by
  intro a0 a1 k
  have ih0 := field_raised.mono_l k
  unfold field_raised.f
  repeat' first
      | (with_reducible exact ih0 _ _ _)
      | (with_reducible exact field_Times.mono _ _ _)
      | (with_reducible exact LeO.refl _)
      | (with_reducible exact LeO.none _)
      | (with_reducible refine LeO.ite ?_ ?_)
      | (with_reducible refine LeO.bind ?_ (fun _ => ?_))
      | exact ih0 _ _ _
      | exact field_Times.mono _ _ _
      | exact LeO.none _
      | refine LeO.ite ?_ ?_
      | refine LeO.bind ?_ (fun _ => ?_)

/-! ### field_Exp: function 65 -/
def field_Exp.f (k : Nat) (a0 : Int) : Option (Int) := (field_raised.f k 2 (Int.tmod (wrap64 ((Int.tmod a0 255) + 255)) 255)).bind fun t134 => (some t134)
theorem field_Exp.mono : ∀ a0 k, LeO (field_Exp.f k a0) (field_Exp.f (k + 1) a0) := by
  intro a0 k
  unfold field_Exp.f
  repeat' first
      | (with_reducible exact field_raised.mono _ _ _)
      | (with_reducible exact LeO.refl _)
      | (with_reducible exact LeO.none _)
      | (with_reducible refine LeO.ite ?_ ?_)
      | (with_reducible refine LeO.bind ?_ (fun _ => ?_))
      | exact field_raised.mono _ _ _
      | exact LeO.none _
      | refine LeO.ite ?_ ?_
      | refine LeO.bind ?_ (fun _ => ?_)

/-! ### reed_checks: function 71 -/
def reed_checks.f (a0 : Int) : Option (Bool) := if a0 ≥ 2 then (if a0 ≤ 64 then (some ((Int.tmod a0 2) == 0)) else (some false)) else (some false)

/-! ### reed_Generator: function 33 -/
def reed_Generator.l0 : Nat → List Int → Int → Int → Option (List Int × Int)
  | 0, _, _, _ => none
  | k + 1, x4, x11, x12 => if x12 < x11 then ((field_Exp.f k x12).bind fun t139 => (if 0 ≤ x12 then (if x12 < (x4.length : Int) then (reed_Generator.l0 k (x4.set (x12 : Int).toNat t139) x11 (wrap64 (x12 + 1))) else (none)) else (none))) else ((field_Of.f k x4).bind fun bt141 => (some (bt141.1, bt141.2)))
def reed_Generator.f (k : Nat) (a0 : Int) : Option (List Int × Int) := (reed_checks.f a0).bind fun t135 => (if t135 = true then (if 0 ≤ a0 then (if (a0 : Int).toNat ≤ 281474976710656 then (reed_Generator.l0 k (List.replicate (a0 : Int).toNat 0) a0 0) else (none)) else (none)) else (some (([] : List Int), 1)))
theorem reed_Generator.mono_l : ∀ k, (∀ y0 y1 y2, LeO (reed_Generator.l0 k y0 y1 y2) (reed_Generator.l0 (k + 1) y0 y1 y2))
  | 0 => fun _ _ _ r h => by simp [reed_Generator.l0] at h
  | k + 1 => by
    have ih0 := reed_Generator.mono_l k
    · intro y0 y1 y2
      unfold reed_Generator.l0
      repeat' first
      | (with_reducible exact ih0 _ _ _)
      | (with_reducible exact field_Exp.mono _ _)
      | (with_reducible exact field_Of.mono _ _)
      | (with_reducible exact LeO.refl _)
      | (with_reducible exact LeO.none _)
      | (with_reducible refine LeO.ite ?_ ?_)
      | (with_reducible refine LeO.bind ?_ (fun _ => ?_))
      | exact ih0 _ _ _
      | exact field_Exp.mono _ _
      | exact field_Of.mono _ _
      | exact LeO.none _
      | refine LeO.ite ?_ ?_
      | refine LeO.bind ?_ (fun _ => ?_)
theorem reed_Generator.mono : ∀ a0 k, LeO (reed_Generator.f k a0) (reed_Generator.f (k + 1) a0) := by
  intro a0 k
  have ih0 := reed_Generator.mono_l k
  unfold reed_Generator.f
  repeat' first
      | (with_reducible exact ih0 _ _ _)
      | (with_reducible exact field_Exp.mono _ _)
      | (with_reducible exact field_Of.mono _ _)
      | (with_reducible exact LeO.refl _)
      | (with_reducible exact LeO.none _)
      | (with_reducible refine LeO.ite ?_ ?_)
      | (with_reducible refine LeO.bind ?_ (fun _ => ?_))
      | exact ih0 _ _ _
      | exact field_Exp.mono _ _
      | exact field_Of.mono _ _
      | exact LeO.none _
      | refine LeO.ite ?_ ?_
      | refine LeO.bind ?_ (fun _ => ?_)

/-! ### reed_Check: function 34 -/
def reed_Check.f (a0 : Int) (a1 : Int) : Option (Int) := (reed_checks.f a1).bind fun t145 => (if t145 = true then (if a0 ≤ a1 then (some 1) else (if a0 > 255 then (some 1) else (some 0))) else (some 1))

/-! ### reed_Encode: function 19 -/
mutual
def reed_Encode.j0 : Nat → ByteArray → Int → Bool → Option (ByteArray × Int)
  | 0, _, _, _ => none
  | k + 1, x0, x1, x22 => if x22 = true then (some ((⟨#[]⟩ : ByteArray), 1)) else ((reed_Generator.f k x1).bind fun bt147 => (reed_Encode.l0 k x0 x1 bt147.1 (List.replicate 64 0) (x0.size : Int) 0))
def reed_Encode.l0 : Nat → ByteArray → Int → List Int → List Int → Int → Int → Option (ByteArray × Int)
  | 0, _, _, _, _, _, _ => none
  | k + 1, x0, x1, x6, x8, x29, x30 => if x30 < x29 then (if 0 ≤ x30 then (if x30 < (x0.size : Int) then (if 0 < 64 then (if 0 < (x8.length : Int) then (if 0 ≤ (wrap64 (x1 - 1)) then (if (wrap64 (x1 - 1)) ≤ 64 then (if (wrap64 (x1 - 1)) ≤ (x8.length : Int) then (if 1 ≤ (wrap64 (x1 - 1)) then (if 1 ≤ x1 then (if x1 ≤ 64 then (if x1 ≤ (x8.length : Int) then (if (wrap64 (x1 - 1)) < 64 then (if (wrap64 (x1 - 1)) < (x8.length : Int) then (reed_Encode.l1 k x0 x1 x6 ((ArrW.setFrom x8 0 ((x8.drop 1).take ((wrap64 (x1 - 1)) : Int).toNat)).set ((wrap64 (x1 - 1)) : Int).toNat 0) (Go.bits .xor .u8 (bt x0 x30) (rd x8 0)) x29 x30 x1 0) else (none)) else (none)) else (none)) else (none)) else (none)) else (none)) else (none)) else (none)) else (none)) else (none)) else (none)) else (none)) else (none)) else (if 0 ≤ x1 then (if x1 ≤ 64 then (if x1 ≤ (x8.length : Int) then (if 1 ≤ x1 then (if x0.size + (strOfNums (x8.take (x1 : Int).toNat)).size ≤ 9223372036854775807 then (some (x0 ++ (strOfNums (x8.take (x1 : Int).toNat)), 0)) else (none)) else (none)) else (none)) else (none)) else (none))
def reed_Encode.l1 : Nat → ByteArray → Int → List Int → List Int → Int → Int → Int → Int → Int → Option (ByteArray × Int)
  | 0, _, _, _, _, _, _, _, _, _ => none
  | k + 1, x0, x1, x6, x8, x10, x29, x30, x48, x49 => if x49 < x48 then (if 0 ≤ x49 then (if x49 < 64 then (if x49 < (x8.length : Int) then (if 0 ≤ (wrap64 ((wrap64 (x1 - 1)) - x49)) then (if (wrap64 ((wrap64 (x1 - 1)) - x49)) < (x6.length : Int) then ((field_Times.f k x10 (rd x6 (wrap64 ((wrap64 (x1 - 1)) - x49)))).bind fun t159 => (reed_Encode.l1 k x0 x1 x6 (x8.set (x49 : Int).toNat (Go.bits .xor .u8 (rd x8 x49) t159)) x10 x29 x30 x48 (wrap64 (x49 + 1)))) else (none)) else (none)) else (none)) else (none)) else (none)) else (reed_Encode.l0 k x0 x1 x6 x8 x29 (wrap64 (x30 + 1)))
end
def reed_Encode.f (k : Nat) (a0 : ByteArray) (a1 : Int) : Option (ByteArray × Int) := (reed_Check.f (wrap64 ((a0.size : Int) + a1)) a1).bind fun t146 => (if t146 = 0 then (reed_Encode.j0 k a0 a1 (a0.toList == ([] : List UInt8))) else (reed_Encode.j0 k a0 a1 true))
theorem reed_Encode.mono_l : ∀ k, (∀ y0 y1 y2, LeO (reed_Encode.j0 k y0 y1 y2) (reed_Encode.j0 (k + 1) y0 y1 y2)) ∧ (∀ y0 y1 y2 y3 y4 y5, LeO (reed_Encode.l0 k y0 y1 y2 y3 y4 y5) (reed_Encode.l0 (k + 1) y0 y1 y2 y3 y4 y5)) ∧ (∀ y0 y1 y2 y3 y4 y5 y6 y7 y8, LeO (reed_Encode.l1 k y0 y1 y2 y3 y4 y5 y6 y7 y8) (reed_Encode.l1 (k + 1) y0 y1 y2 y3 y4 y5 y6 y7 y8))
  | 0 => ⟨fun _ _ _ r h => by simp [reed_Encode.j0] at h, fun _ _ _ _ _ _ r h => by simp [reed_Encode.l0] at h, fun _ _ _ _ _ _ _ _ _ r h => by simp [reed_Encode.l1] at h⟩
  | k + 1 => by
    obtain ⟨ih0, ih1, ih2⟩ := reed_Encode.mono_l k
    refine ⟨?_, ?_, ?_⟩
    · intro y0 y1 y2
      unfold reed_Encode.j0
      repeat' first
      | (with_reducible exact ih0 _ _ _)
      | (with_reducible exact ih1 _ _ _ _ _ _)
      | (with_reducible exact ih2 _ _ _ _ _ _ _ _ _)
      | (with_reducible exact field_Times.mono _ _ _)
      | (with_reducible exact reed_Generator.mono _ _)
      | (with_reducible exact LeO.refl _)
      | (with_reducible exact LeO.none _)
      | (with_reducible refine LeO.ite ?_ ?_)
      | (with_reducible refine LeO.bind ?_ (fun _ => ?_))
      | exact ih0 _ _ _
      | exact ih1 _ _ _ _ _ _
      | exact ih2 _ _ _ _ _ _ _ _ _
      | exact field_Times.mono _ _ _
      | exact reed_Generator.mono _ _
      | exact LeO.none _
      | refine LeO.ite ?_ ?_
      | refine LeO.bind ?_ (fun _ => ?_)
    · intro y0 y1 y2 y3 y4 y5
      unfold reed_Encode.l0
      repeat' first
      | (with_reducible exact ih0 _ _ _)
      | (with_reducible exact ih1 _ _ _ _ _ _)
      | (with_reducible exact ih2 _ _ _ _ _ _ _ _ _)
      | (with_reducible exact field_Times.mono _ _ _)
      | (with_reducible exact reed_Generator.mono _ _)
      | (with_reducible exact LeO.refl _)
      | (with_reducible exact LeO.none _)
      | (with_reducible refine LeO.ite ?_ ?_)
      | (with_reducible refine LeO.bind ?_ (fun _ => ?_))
      | exact ih0 _ _ _
      | exact ih1 _ _ _ _ _ _
      | exact ih2 _ _ _ _ _ _ _ _ _
      | exact field_Times.mono _ _ _
      | exact reed_Generator.mono _ _
      | exact LeO.none _
      | refine LeO.ite ?_ ?_
      | refine LeO.bind ?_ (fun _ => ?_)
    · intro y0 y1 y2 y3 y4 y5 y6 y7 y8
      unfold reed_Encode.l1
      repeat' first
      | (with_reducible exact ih0 _ _ _)
      | (with_reducible exact ih1 _ _ _ _ _ _)
      | (with_reducible exact ih2 _ _ _ _ _ _ _ _ _)
      | (with_reducible exact field_Times.mono _ _ _)
      | (with_reducible exact reed_Generator.mono _ _)
      | (with_reducible exact LeO.refl _)
      | (with_reducible exact LeO.none _)
      | (with_reducible refine LeO.ite ?_ ?_)
      | (with_reducible refine LeO.bind ?_ (fun _ => ?_))
      | exact ih0 _ _ _
      | exact ih1 _ _ _ _ _ _
      | exact ih2 _ _ _ _ _ _ _ _ _
      | exact field_Times.mono _ _ _
      | exact reed_Generator.mono _ _
      | exact LeO.none _
      | refine LeO.ite ?_ ?_
      | refine LeO.bind ?_ (fun _ => ?_)
theorem reed_Encode.mono : ∀ a0 a1 k, LeO (reed_Encode.f k a0 a1) (reed_Encode.f (k + 1) a0 a1) := by
  intro a0 a1 k
  obtain ⟨ih0, ih1, ih2⟩ := reed_Encode.mono_l k
  unfold reed_Encode.f
  repeat' first
      | (with_reducible exact ih0 _ _ _)
      | (with_reducible exact ih1 _ _ _ _ _ _)
      | (with_reducible exact ih2 _ _ _ _ _ _ _ _ _)
      | (with_reducible exact field_Times.mono _ _ _)
      | (with_reducible exact reed_Generator.mono _ _)
      | (with_reducible exact LeO.refl _)
      | (with_reducible exact LeO.none _)
      | (with_reducible refine LeO.ite ?_ ?_)
      | (with_reducible refine LeO.bind ?_ (fun _ => ?_))
      | exact ih0 _ _ _
      | exact ih1 _ _ _ _ _ _
      | exact ih2 _ _ _ _ _ _ _ _ _
      | exact field_Times.mono _ _ _
      | exact reed_Generator.mono _ _
      | exact LeO.none _
      | refine LeO.ite ?_ ?_
      | refine LeO.bind ?_ (fun _ => ?_)
def reed_Encode.T14 : Bool × List (List Nat × List Nat) := (true, [([], []), ([0], [0]), ([1], [1]), ([], []), ([], []), ([], []), ([5], [5]), ([], []), ([6, 7], [6, 7]), ([4, 8], [4, 8]), ([9], [9]), ([3, 10], [3, 10]), ([2, 11], [2, 11]), ([0, 0, 1, 2, 3, 4, 5, 6, 7, 8, 9, 10, 11, 12], [0]), ([13, 12, 11, 0, 1, 2, 3, 4, 5, 6, 7, 8, 9, 10, 11, 12], [12, 13])])
def reed_Encode.B14 : List Nat := [0, 1, 3, 0, 0, 0, 32, 0, 224, 496, 1008, 2040, 4095, 8191, 16383]
theorem reed_Encode.tab14 : rtab .any (opsOf Try.f19 14) = reed_Encode.T14 := by kernel_rfl
theorem reed_Encode.bits14 : waitsOk reed_Encode.T14.2 reed_Encode.B14 = true := by kernel_rfl

/-! ### reed_Syndromes: function 22 -/
mutual
def reed_Syndromes.l0 : Nat → ByteArray → List Int → Int → Int → Option (List Int × Int)
  | 0, _, _, _, _ => none
  | k + 1, x0, x6, x18, x19 => if x19 < x18 then ((field_Exp.f k x19).bind fun t165 => (reed_Syndromes.l1 k x0 x6 x19 t165 x18 x19 (x0.size : Int) 0)) else (some (x6, 0))
def reed_Syndromes.l1 : Nat → ByteArray → List Int → Int → Int → Int → Int → Int → Int → Option (List Int × Int)
  | 0, _, _, _, _, _, _, _, _ => none
  | k + 1, x0, x6, x7, x8, x18, x19, x25, x26 => if x26 < x25 then (if 0 ≤ x7 then (if x7 < (x6.length : Int) then ((field_Times.f k (rd x6 x7) x8).bind fun t167 => (if 0 ≤ x26 then (if x26 < (x0.size : Int) then (reed_Syndromes.l1 k x0 (x6.set (x7 : Int).toNat (Go.bits .xor .u8 t167 (bt x0 x26))) x7 x8 x18 x19 x25 (wrap64 (x26 + 1))) else (none)) else (none))) else (none)) else (none)) else (reed_Syndromes.l0 k x0 x6 x18 (wrap64 (x19 + 1)))
end
def reed_Syndromes.f (k : Nat) (a0 : ByteArray) (a1 : Int) : Option (List Int × Int) := (reed_Check.f (a0.size : Int) a1).bind fun t161 => (if t161 = 0 then (if 0 ≤ a1 then (if (a1 : Int).toNat ≤ 281474976710656 then ((some (List.replicate (a1 : Int).toNat 0 : List Int)).bind fun y162 => (reed_Syndromes.l0 k a0 y162 (y162.length : Int) 0)) else (none)) else (none)) else (some (([] : List Int), 1)))
theorem reed_Syndromes.mono_l : ∀ k, (∀ y0 y1 y2 y3, LeO (reed_Syndromes.l0 k y0 y1 y2 y3) (reed_Syndromes.l0 (k + 1) y0 y1 y2 y3)) ∧ (∀ y0 y1 y2 y3 y4 y5 y6 y7, LeO (reed_Syndromes.l1 k y0 y1 y2 y3 y4 y5 y6 y7) (reed_Syndromes.l1 (k + 1) y0 y1 y2 y3 y4 y5 y6 y7))
  | 0 => ⟨fun _ _ _ _ r h => by simp [reed_Syndromes.l0] at h, fun _ _ _ _ _ _ _ _ r h => by simp [reed_Syndromes.l1] at h⟩
  | k + 1 => by
    obtain ⟨ih0, ih1⟩ := reed_Syndromes.mono_l k
    refine ⟨?_, ?_⟩
    · intro y0 y1 y2 y3
      unfold reed_Syndromes.l0
      repeat' first
      | (with_reducible exact ih0 _ _ _ _)
      | (with_reducible exact ih1 _ _ _ _ _ _ _ _)
      | (with_reducible exact field_Exp.mono _ _)
      | (with_reducible exact field_Times.mono _ _ _)
      | (with_reducible exact LeO.refl _)
      | (with_reducible exact LeO.none _)
      | (with_reducible refine LeO.ite ?_ ?_)
      | (with_reducible refine LeO.bind ?_ (fun _ => ?_))
      | exact ih0 _ _ _ _
      | exact ih1 _ _ _ _ _ _ _ _
      | exact field_Exp.mono _ _
      | exact field_Times.mono _ _ _
      | exact LeO.none _
      | refine LeO.ite ?_ ?_
      | refine LeO.bind ?_ (fun _ => ?_)
    · intro y0 y1 y2 y3 y4 y5 y6 y7
      unfold reed_Syndromes.l1
      repeat' first
      | (with_reducible exact ih0 _ _ _ _)
      | (with_reducible exact ih1 _ _ _ _ _ _ _ _)
      | (with_reducible exact field_Exp.mono _ _)
      | (with_reducible exact field_Times.mono _ _ _)
      | (with_reducible exact LeO.refl _)
      | (with_reducible exact LeO.none _)
      | (with_reducible refine LeO.ite ?_ ?_)
      | (with_reducible refine LeO.bind ?_ (fun _ => ?_))
      | exact ih0 _ _ _ _
      | exact ih1 _ _ _ _ _ _ _ _
      | exact field_Exp.mono _ _
      | exact field_Times.mono _ _ _
      | exact LeO.none _
      | refine LeO.ite ?_ ?_
      | refine LeO.bind ?_ (fun _ => ?_)
theorem reed_Syndromes.mono : ∀ a0 a1 k, LeO (reed_Syndromes.f k a0 a1) (reed_Syndromes.f (k + 1) a0 a1) := by
  intro a0 a1 k
  obtain ⟨ih0, ih1⟩ := reed_Syndromes.mono_l k
  unfold reed_Syndromes.f
  repeat' first
      | (with_reducible exact ih0 _ _ _ _)
      | (with_reducible exact ih1 _ _ _ _ _ _ _ _)
      | (with_reducible exact field_Exp.mono _ _)
      | (with_reducible exact field_Times.mono _ _ _)
      | (with_reducible exact LeO.refl _)
      | (with_reducible exact LeO.none _)
      | (with_reducible refine LeO.ite ?_ ?_)
      | (with_reducible refine LeO.bind ?_ (fun _ => ?_))
      | exact ih0 _ _ _ _
      | exact ih1 _ _ _ _ _ _ _ _
      | exact field_Exp.mono _ _
      | exact field_Times.mono _ _ _
      | exact LeO.none _
      | refine LeO.ite ?_ ?_
      | refine LeO.bind ?_ (fun _ => ?_)
def reed_Syndromes.T11 : Bool × List (List Nat × List Nat) := (true, [([], []), ([], []), ([], []), ([], []), ([2, 3], [2, 3]), ([4], [4]), ([], []), ([5, 6], [5, 6]), ([], []), ([], []), ([8, 9], [8, 9]), ([7, 10], [7, 10]), ([0, 1, 0, 1, 2, 3, 4, 5, 6, 7, 8, 9, 10, 11], [0, 1]), ([12, 11, 7, 0, 1, 2, 3, 4, 5, 6, 7, 8, 9, 10, 11], [11, 12])])
def reed_Syndromes.B11 : List Nat := [0, 0, 0, 0, 12, 28, 0, 124, 0, 0, 768, 2044, 4095, 8191]
theorem reed_Syndromes.tab11 : rtab .any (opsOf Try.f22 11) = reed_Syndromes.T11 := by kernel_rfl
theorem reed_Syndromes.bits11 : waitsOk reed_Syndromes.T11.2 reed_Syndromes.B11 = true := by kernel_rfl

/-! ### reed_Whole: function 21 -/
def reed_Whole.l0 : Nat → List Int → Int → Int → Option (Bool × Int)
  | 0, _, _, _ => none
  | k + 1, x19, x20, x21 => if x21 < x20 then (if 0 ≤ x21 then (if x21 < (x19.length : Int) then (if (rd x19 x21) = 0 then (reed_Whole.l0 k x19 x20 (wrap64 (x21 + 1))) else (some (false, 0))) else (none)) else (none)) else (some (true, 0))
def reed_Whole.f (k : Nat) (a0 : ByteArray) (a1 : Int) : Option (Bool × Int) := (reed_Syndromes.f k a0 a1).bind fun bt169 => (if bt169.2 = 0 then (reed_Whole.l0 k bt169.1 (bt169.1.length : Int) 0) else (some (false, bt169.2)))
theorem reed_Whole.mono_l : ∀ k, (∀ y0 y1 y2, LeO (reed_Whole.l0 k y0 y1 y2) (reed_Whole.l0 (k + 1) y0 y1 y2))
  | 0 => fun _ _ _ r h => by simp [reed_Whole.l0] at h
  | k + 1 => by
    have ih0 := reed_Whole.mono_l k
    · intro y0 y1 y2
      unfold reed_Whole.l0
      repeat' first
      | (with_reducible exact ih0 _ _ _)
      | (with_reducible exact reed_Syndromes.mono _ _ _)
      | (with_reducible exact LeO.refl _)
      | (with_reducible exact LeO.none _)
      | (with_reducible refine LeO.ite ?_ ?_)
      | (with_reducible refine LeO.bind ?_ (fun _ => ?_))
      | exact ih0 _ _ _
      | exact reed_Syndromes.mono _ _ _
      | exact LeO.none _
      | refine LeO.ite ?_ ?_
      | refine LeO.bind ?_ (fun _ => ?_)
theorem reed_Whole.mono : ∀ a0 a1 k, LeO (reed_Whole.f k a0 a1) (reed_Whole.f (k + 1) a0 a1) := by
  intro a0 a1 k
  have ih0 := reed_Whole.mono_l k
  unfold reed_Whole.f
  repeat' first
      | (with_reducible exact ih0 _ _ _)
      | (with_reducible exact reed_Syndromes.mono _ _ _)
      | (with_reducible exact LeO.refl _)
      | (with_reducible exact LeO.none _)
      | (with_reducible refine LeO.ite ?_ ?_)
      | (with_reducible refine LeO.bind ?_ (fun _ => ?_))
      | exact ih0 _ _ _
      | exact reed_Syndromes.mono _ _ _
      | exact LeO.none _
      | refine LeO.ite ?_ ?_
      | refine LeO.bind ?_ (fun _ => ?_)

/-! ### foghornlaw19_works: function 17 -/
def foghornlaw19_works.f (k : Nat)  : Option (Bool) := (reed_Encode.f k (⟨#[1]⟩ : ByteArray) 2).bind fun bt174 => ((reed_Whole.f k bt174.1 2).bind fun bt176 => ((reed_Whole.f k (⟨#[1, 3, 3]⟩ : ByteArray) 2).bind fun bt178 => (if bt174.2 = 0 then (if bt176.2 = 0 then (if bt178.2 = 0 then (if bt174.1.toList = ([1, 3, 2] : List UInt8) then (if bt176.1 = true then (some (!bt178.1)) else (some false)) else (some false)) else (some false)) else (some false)) else (some false))))
theorem foghornlaw19_works.mono : ∀ k, LeO (foghornlaw19_works.f k ) (foghornlaw19_works.f (k + 1) ) := by
  intro  k
  unfold foghornlaw19_works.f
  repeat' first
      | (with_reducible exact reed_Encode.mono _ _ _)
      | (with_reducible exact reed_Whole.mono _ _ _)
      | (with_reducible exact LeO.refl _)
      | (with_reducible exact LeO.none _)
      | (with_reducible refine LeO.ite ?_ ?_)
      | (with_reducible refine LeO.bind ?_ (fun _ => ?_))
      | exact reed_Encode.mono _ _ _
      | exact reed_Whole.mono _ _ _
      | exact LeO.none _
      | refine LeO.ite ?_ ?_
      | refine LeO.bind ?_ (fun _ => ?_)

/-! ### foghornlaw19_fit: function 18 -/
def foghornlaw19_fit.f (a0 : ByteArray) (a1 : Int) : Option (ByteArray × Int) := if a0.toList = ([] : List UInt8) then (if 0 ≤ (mn 1 (wrap64 (255 - (wrap64 (2 + (wrap64 (2 * (wrap64 (Int.tmod (IntKind.u64.wrap (a1)) 32))))))))) then (if (mn 1 (wrap64 (255 - (wrap64 (2 + (wrap64 (2 * (wrap64 (Int.tmod (IntKind.u64.wrap (a1)) 32))))))))) ≤ 1 then (some ((⟨#[0]⟩ : ByteArray).extract 0 ((mn 1 (wrap64 (255 - (wrap64 (2 + (wrap64 (2 * (wrap64 (Int.tmod (IntKind.u64.wrap (a1)) 32))))))))) : Int).toNat, wrap64 (2 + (wrap64 (2 * (wrap64 (Int.tmod (IntKind.u64.wrap (a1)) 32))))))) else (none)) else (none)) else (if 0 ≤ (mn (a0.size : Int) (wrap64 (255 - (wrap64 (2 + (wrap64 (2 * (wrap64 (Int.tmod (IntKind.u64.wrap (a1)) 32))))))))) then (if (mn (a0.size : Int) (wrap64 (255 - (wrap64 (2 + (wrap64 (2 * (wrap64 (Int.tmod (IntKind.u64.wrap (a1)) 32))))))))) ≤ (a0.size : Int) then (some (a0.extract 0 ((mn (a0.size : Int) (wrap64 (255 - (wrap64 (2 + (wrap64 (2 * (wrap64 (Int.tmod (IntKind.u64.wrap (a1)) 32))))))))) : Int).toNat, wrap64 (2 + (wrap64 (2 * (wrap64 (Int.tmod (IntKind.u64.wrap (a1)) 32))))))) else (none)) else (none))

/-! ### foghornlaw19_over: function 20 -/
def foghornlaw19_over.l0 : Nat → ByteArray → ByteArray → List Int → Int → Option (ByteArray)
  | 0, _, _, _, _ => none
  | k + 1, x0, x1, x5, x6 => if x6 < (x0.size : Int) then (if x6 < (x1.size : Int) then (if 0 ≤ x6 then (if x5.length < 140737488355328 then (foghornlaw19_over.l0 k x0 x1 (x5 ++ [Go.bits .xor .u8 (bt x0 x6) (bt x1 x6)]) (wrap64 (x6 + 1))) else (none)) else (none)) else (some (strOfNums x5))) else (some (strOfNums x5))
def foghornlaw19_over.f (k : Nat) (a0 : ByteArray) (a1 : ByteArray) : Option (ByteArray) := foghornlaw19_over.l0 k a0 a1 ([] : List Int) 0
theorem foghornlaw19_over.mono_l : ∀ k, (∀ y0 y1 y2 y3, LeO (foghornlaw19_over.l0 k y0 y1 y2 y3) (foghornlaw19_over.l0 (k + 1) y0 y1 y2 y3))
  | 0 => fun _ _ _ _ r h => by simp [foghornlaw19_over.l0] at h
  | k + 1 => by
    have ih0 := foghornlaw19_over.mono_l k
    · intro y0 y1 y2 y3
      unfold foghornlaw19_over.l0
      repeat' first
      | (with_reducible exact ih0 _ _ _ _)
      | (with_reducible exact LeO.refl _)
      | (with_reducible exact LeO.none _)
      | (with_reducible refine LeO.ite ?_ ?_)
      | (with_reducible refine LeO.bind ?_ (fun _ => ?_))
      | exact ih0 _ _ _ _
      | exact LeO.none _
      | refine LeO.ite ?_ ?_
      | refine LeO.bind ?_ (fun _ => ?_)
theorem foghornlaw19_over.mono : ∀ a0 a1 k, LeO (foghornlaw19_over.f k a0 a1) (foghornlaw19_over.f (k + 1) a0 a1) := by
  intro a0 a1 k
  have ih0 := foghornlaw19_over.mono_l k
  unfold foghornlaw19_over.f
  repeat' first
      | (with_reducible exact ih0 _ _ _ _)
      | (with_reducible exact LeO.refl _)
      | (with_reducible exact LeO.none _)
      | (with_reducible refine LeO.ite ?_ ?_)
      | (with_reducible refine LeO.bind ?_ (fun _ => ?_))
      | exact ih0 _ _ _ _
      | exact LeO.none _
      | refine LeO.ite ?_ ?_
      | refine LeO.bind ?_ (fun _ => ?_)
def foghornlaw19_over.T5 : Bool × List (List Nat × List Nat) := (true, [([], []), ([], []), ([], []), ([1, 2], [1, 2]), ([], []), ([], []), ([4, 5], [4, 5]), ([3, 6], [3, 6]), ([7], [7]), ([0, 8], [0, 8]), ([9, 9, 0, 1, 2, 3, 4, 5, 6, 7, 8, 9], [0, 9])])
def foghornlaw19_over.B5 : List Nat := [0, 0, 0, 6, 0, 0, 48, 126, 254, 511, 1023]
theorem foghornlaw19_over.tab5 : rtab .any (opsOf Try.f20 5) = foghornlaw19_over.T5 := by kernel_rfl
theorem foghornlaw19_over.bits5 : waitsOk foghornlaw19_over.T5.2 foghornlaw19_over.B5 = true := by kernel_rfl

/-! ### foghornlaw19_ReedLinear: function 3 -/
def foghornlaw19_ReedLinear.j0 : Nat → ByteArray → Int → Int → ByteArray → Bool → Option (Bool)
  | 0, _, _, _, _, _ => none
  | k + 1, x0, x2, x3, x10, x90 => if x90 = true then (some false) else (if 0 ≤ (mn (wrap64 (x3)) (wrap64 (255 - (x10.size : Int)))) then (if (mn (wrap64 (x3)) (wrap64 (255 - (x10.size : Int))) : Int).toNat ≤ 281474976710656 then ((some (List.replicate (mn (wrap64 (x3)) (wrap64 (255 - (x10.size : Int))) : Int).toNat 0 : List Int)).bind fun y196 => (if (strOfNums y196).size + x0.size ≤ 9223372036854775807 then ((reed_Encode.f k ((strOfNums y196) ++ x0) x2).bind fun bt199 => (if (strOfNums y196).size + x10.size ≤ 9223372036854775807 then ((reed_Whole.f k ((strOfNums y196) ++ x10) x2).bind fun bt201 => (if bt199.2 = 0 then (if bt201.2 = 0 then (if bt201.1 = true then (some (bt199.1.toList == ((strOfNums y196) ++ x10).toList)) else (some false)) else (some false)) else (some false))) else (none))) else (none))) else (none)) else (none))
def foghornlaw19_ReedLinear.f (k : Nat) (a0 : ByteArray) (a1 : ByteArray) (a2 : Int) (a3 : Int) : Option (Bool) := (foghornlaw19_works.f k).bind fun t183 => (if t183 = true then ((foghornlaw19_fit.f a0 a2).bind fun bt184 => ((foghornlaw19_fit.f a1 (wrap64 ((wrap64 (Int.tdiv bt184.2 2)) - 1))).bind fun bt186 => (if 0 ≤ (mn (bt184.1.size : Int) (bt186.1.size : Int)) then (if (mn (bt184.1.size : Int) (bt186.1.size : Int)) ≤ (bt184.1.size : Int) then (if (mn (bt184.1.size : Int) (bt186.1.size : Int)) ≤ (bt186.1.size : Int) then ((reed_Encode.f k (bt184.1.extract 0 ((mn (bt184.1.size : Int) (bt186.1.size : Int)) : Int).toNat) bt184.2).bind fun bt188 => ((reed_Encode.f k (bt186.1.extract 0 ((mn (bt184.1.size : Int) (bt186.1.size : Int)) : Int).toNat) bt184.2).bind fun bt190 => ((foghornlaw19_over.f k (bt184.1.extract 0 ((mn (bt184.1.size : Int) (bt186.1.size : Int)) : Int).toNat) (bt186.1.extract 0 ((mn (bt184.1.size : Int) (bt186.1.size : Int)) : Int).toNat)).bind fun t192 => ((reed_Encode.f k t192 bt184.2).bind fun bt193 => (if bt188.2 = 0 then (if bt190.2 = 0 then (if bt193.2 = 0 then ((foghornlaw19_over.f k bt188.1 bt190.1).bind fun t195 => (if bt193.1.toList = t195.toList then (foghornlaw19_ReedLinear.j0 k (bt184.1.extract 0 ((mn (bt184.1.size : Int) (bt186.1.size : Int)) : Int).toNat) bt184.2 a3 bt188.1 ((bt193.1.size : Int) != (wrap64 ((mn (bt184.1.size : Int) (bt186.1.size : Int)) + bt184.2)))) else (foghornlaw19_ReedLinear.j0 k (bt184.1.extract 0 ((mn (bt184.1.size : Int) (bt186.1.size : Int)) : Int).toNat) bt184.2 a3 bt188.1 true))) else (foghornlaw19_ReedLinear.j0 k (bt184.1.extract 0 ((mn (bt184.1.size : Int) (bt186.1.size : Int)) : Int).toNat) bt184.2 a3 bt188.1 true)) else (foghornlaw19_ReedLinear.j0 k (bt184.1.extract 0 ((mn (bt184.1.size : Int) (bt186.1.size : Int)) : Int).toNat) bt184.2 a3 bt188.1 true)) else (foghornlaw19_ReedLinear.j0 k (bt184.1.extract 0 ((mn (bt184.1.size : Int) (bt186.1.size : Int)) : Int).toNat) bt184.2 a3 bt188.1 true)))))) else (none)) else (none)) else (none)))) else (some false))
theorem foghornlaw19_ReedLinear.mono_l : ∀ k, (∀ y0 y1 y2 y3 y4, LeO (foghornlaw19_ReedLinear.j0 k y0 y1 y2 y3 y4) (foghornlaw19_ReedLinear.j0 (k + 1) y0 y1 y2 y3 y4))
  | 0 => fun _ _ _ _ _ r h => by simp [foghornlaw19_ReedLinear.j0] at h
  | k + 1 => by
    have ih0 := foghornlaw19_ReedLinear.mono_l k
    · intro y0 y1 y2 y3 y4
      unfold foghornlaw19_ReedLinear.j0
      repeat' first
      | (with_reducible exact ih0 _ _ _ _ _)
      | (with_reducible exact foghornlaw19_over.mono _ _ _)
      | (with_reducible exact foghornlaw19_works.mono _)
      | (with_reducible exact reed_Encode.mono _ _ _)
      | (with_reducible exact reed_Whole.mono _ _ _)
      | (with_reducible exact LeO.refl _)
      | (with_reducible exact LeO.none _)
      | (with_reducible refine LeO.ite ?_ ?_)
      | (with_reducible refine LeO.bind ?_ (fun _ => ?_))
      | exact ih0 _ _ _ _ _
      | exact foghornlaw19_over.mono _ _ _
      | exact foghornlaw19_works.mono _
      | exact reed_Encode.mono _ _ _
      | exact reed_Whole.mono _ _ _
      | exact LeO.none _
      | refine LeO.ite ?_ ?_
      | refine LeO.bind ?_ (fun _ => ?_)
theorem foghornlaw19_ReedLinear.mono : ∀ a0 a1 a2 a3 k, LeO (foghornlaw19_ReedLinear.f k a0 a1 a2 a3) (foghornlaw19_ReedLinear.f (k + 1) a0 a1 a2 a3) := by
  intro a0 a1 a2 a3 k
  have ih0 := foghornlaw19_ReedLinear.mono_l k
  unfold foghornlaw19_ReedLinear.f
  repeat' first
      | (with_reducible exact ih0 _ _ _ _ _)
      | (with_reducible exact foghornlaw19_over.mono _ _ _)
      | (with_reducible exact foghornlaw19_works.mono _)
      | (with_reducible exact reed_Encode.mono _ _ _)
      | (with_reducible exact reed_Whole.mono _ _ _)
      | (with_reducible exact LeO.refl _)
      | (with_reducible exact LeO.none _)
      | (with_reducible refine LeO.ite ?_ ?_)
      | (with_reducible refine LeO.bind ?_ (fun _ => ?_))
      | exact ih0 _ _ _ _ _
      | exact foghornlaw19_over.mono _ _ _
      | exact foghornlaw19_works.mono _
      | exact reed_Encode.mono _ _ _
      | exact reed_Whole.mono _ _ _
      | exact LeO.none _
      | refine LeO.ite ?_ ?_
      | refine LeO.bind ?_ (fun _ => ?_)
/-- THE ONE PURE STATEMENT of foghornlaw19_ReedLinear: yours. -/
def foghornlaw19_ReedLinear.Pure : Prop := ∀ (a0 : ByteArray) (a1 : ByteArray) (a2 : Int) (a3 : Int), a0.size ≤ 140737488351232 → a1.size ≤ 140737488351232 → (Lit.int .i64 a2).wf = true → (Lit.int .u8 a3).wf = true → ∃ k, foghornlaw19_ReedLinear.f k a0 a1 a2 a3 = some true

/-! ### foghornlaw19_ReedOne: function 4 -/
mutual
def foghornlaw19_ReedOne.j0 : Nat → Bool → List Int → Bool → Option (Bool)
  | 0, _, _, _ => none
  | k + 1, x8, x10, x90 => if x90 = true then (some false) else (foghornlaw19_ReedOne.l0 k x8 x10 true 0)
def foghornlaw19_ReedOne.l0 : Nat → Bool → List Int → Bool → Int → Option (Bool)
  | 0, _, _, _, _ => none
  | k + 1, x8, x10, x12, x13 => if x13 < (x10.length : Int) then (if x12 = true then (if 0 ≤ x13 then (foghornlaw19_ReedOne.l0 k x8 x10 ((rd x10 x13) == 0) (wrap64 (x13 + 1))) else (none)) else (foghornlaw19_ReedOne.l0 k x8 x10 false (wrap64 (x13 + 1)))) else (some (x12 == x8))
end
def foghornlaw19_ReedOne.f (k : Nat) (a0 : ByteArray) (a1 : Int) : Option (Bool) := (foghornlaw19_works.f k).bind fun t203 => (if t203 = true then ((foghornlaw19_fit.f a0 a1).bind fun bt204 => (if bt204.1.size + 1 ≤ 9223372036854775807 then (if 0 ≤ (mx 0 (wrap64 (bt204.2 - 1))) then (if (mx 0 (wrap64 (bt204.2 - 1)) : Int).toNat ≤ 281474976710656 then ((some (List.replicate (mx 0 (wrap64 (bt204.2 - 1)) : Int).toNat 0 : List Int)).bind fun y206 => (if (bt204.1 ++ (⟨#[7]⟩ : ByteArray)).size + (strOfNums y206).size ≤ 9223372036854775807 then (if 0 ≤ (mn (((bt204.1 ++ (⟨#[7]⟩ : ByteArray)) ++ (strOfNums y206)).size : Int) 255) then (if (mn (((bt204.1 ++ (⟨#[7]⟩ : ByteArray)) ++ (strOfNums y206)).size : Int) 255) ≤ (((bt204.1 ++ (⟨#[7]⟩ : ByteArray)) ++ (strOfNums y206)).size : Int) then (if 0 ≤ (wrap64 (((((bt204.1 ++ (⟨#[7]⟩ : ByteArray)) ++ (strOfNums y206)).extract 0 ((mn (((bt204.1 ++ (⟨#[7]⟩ : ByteArray)) ++ (strOfNums y206)).size : Int) 255) : Int).toNat).size : Int) - bt204.2)) then (if (wrap64 (((((bt204.1 ++ (⟨#[7]⟩ : ByteArray)) ++ (strOfNums y206)).extract 0 ((mn (((bt204.1 ++ (⟨#[7]⟩ : ByteArray)) ++ (strOfNums y206)).size : Int) 255) : Int).toNat).size : Int) - bt204.2)) ≤ ((((bt204.1 ++ (⟨#[7]⟩ : ByteArray)) ++ (strOfNums y206)).extract 0 ((mn (((bt204.1 ++ (⟨#[7]⟩ : ByteArray)) ++ (strOfNums y206)).size : Int) 255) : Int).toNat).size : Int) then ((reed_Encode.f k ((((bt204.1 ++ (⟨#[7]⟩ : ByteArray)) ++ (strOfNums y206)).extract 0 ((mn (((bt204.1 ++ (⟨#[7]⟩ : ByteArray)) ++ (strOfNums y206)).size : Int) 255) : Int).toNat).extract 0 ((wrap64 (((((bt204.1 ++ (⟨#[7]⟩ : ByteArray)) ++ (strOfNums y206)).extract 0 ((mn (((bt204.1 ++ (⟨#[7]⟩ : ByteArray)) ++ (strOfNums y206)).size : Int) 255) : Int).toNat).size : Int) - bt204.2)) : Int).toNat) bt204.2).bind fun bt209 => ((reed_Whole.f k (((bt204.1 ++ (⟨#[7]⟩ : ByteArray)) ++ (strOfNums y206)).extract 0 ((mn (((bt204.1 ++ (⟨#[7]⟩ : ByteArray)) ++ (strOfNums y206)).size : Int) 255) : Int).toNat) bt204.2).bind fun bt211 => ((reed_Syndromes.f k (((bt204.1 ++ (⟨#[7]⟩ : ByteArray)) ++ (strOfNums y206)).extract 0 ((mn (((bt204.1 ++ (⟨#[7]⟩ : ByteArray)) ++ (strOfNums y206)).size : Int) 255) : Int).toNat) bt204.2).bind fun bt213 => (if bt209.2 = 0 then (if bt211.2 = 0 then (if bt213.2 = 0 then (if (bt209.1.size : Int) = ((((bt204.1 ++ (⟨#[7]⟩ : ByteArray)) ++ (strOfNums y206)).extract 0 ((mn (((bt204.1 ++ (⟨#[7]⟩ : ByteArray)) ++ (strOfNums y206)).size : Int) 255) : Int).toNat).size : Int) then (if 0 ≤ (((((bt204.1 ++ (⟨#[7]⟩ : ByteArray)) ++ (strOfNums y206)).extract 0 ((mn (((bt204.1 ++ (⟨#[7]⟩ : ByteArray)) ++ (strOfNums y206)).size : Int) 255) : Int).toNat).extract 0 ((wrap64 (((((bt204.1 ++ (⟨#[7]⟩ : ByteArray)) ++ (strOfNums y206)).extract 0 ((mn (((bt204.1 ++ (⟨#[7]⟩ : ByteArray)) ++ (strOfNums y206)).size : Int) 255) : Int).toNat).size : Int) - bt204.2)) : Int).toNat).size : Int) then (if (((((bt204.1 ++ (⟨#[7]⟩ : ByteArray)) ++ (strOfNums y206)).extract 0 ((mn (((bt204.1 ++ (⟨#[7]⟩ : ByteArray)) ++ (strOfNums y206)).size : Int) 255) : Int).toNat).extract 0 ((wrap64 (((((bt204.1 ++ (⟨#[7]⟩ : ByteArray)) ++ (strOfNums y206)).extract 0 ((mn (((bt204.1 ++ (⟨#[7]⟩ : ByteArray)) ++ (strOfNums y206)).size : Int) 255) : Int).toNat).size : Int) - bt204.2)) : Int).toNat).size : Int) ≤ (bt209.1.size : Int) then (if (bt209.1.extract 0 ((((((bt204.1 ++ (⟨#[7]⟩ : ByteArray)) ++ (strOfNums y206)).extract 0 ((mn (((bt204.1 ++ (⟨#[7]⟩ : ByteArray)) ++ (strOfNums y206)).size : Int) 255) : Int).toNat).extract 0 ((wrap64 (((((bt204.1 ++ (⟨#[7]⟩ : ByteArray)) ++ (strOfNums y206)).extract 0 ((mn (((bt204.1 ++ (⟨#[7]⟩ : ByteArray)) ++ (strOfNums y206)).size : Int) 255) : Int).toNat).size : Int) - bt204.2)) : Int).toNat).size : Int) : Int).toNat).toList = ((((bt204.1 ++ (⟨#[7]⟩ : ByteArray)) ++ (strOfNums y206)).extract 0 ((mn (((bt204.1 ++ (⟨#[7]⟩ : ByteArray)) ++ (strOfNums y206)).size : Int) 255) : Int).toNat).extract 0 ((wrap64 (((((bt204.1 ++ (⟨#[7]⟩ : ByteArray)) ++ (strOfNums y206)).extract 0 ((mn (((bt204.1 ++ (⟨#[7]⟩ : ByteArray)) ++ (strOfNums y206)).size : Int) 255) : Int).toNat).size : Int) - bt204.2)) : Int).toNat).toList then (foghornlaw19_ReedOne.j0 k bt211.1 bt213.1 (bt211.1 != (bt209.1.toList == (((bt204.1 ++ (⟨#[7]⟩ : ByteArray)) ++ (strOfNums y206)).extract 0 ((mn (((bt204.1 ++ (⟨#[7]⟩ : ByteArray)) ++ (strOfNums y206)).size : Int) 255) : Int).toNat).toList))) else (foghornlaw19_ReedOne.j0 k bt211.1 bt213.1 true)) else (none)) else (none)) else (foghornlaw19_ReedOne.j0 k bt211.1 bt213.1 true)) else (foghornlaw19_ReedOne.j0 k bt211.1 bt213.1 true)) else (foghornlaw19_ReedOne.j0 k bt211.1 bt213.1 true)) else (foghornlaw19_ReedOne.j0 k bt211.1 bt213.1 true))))) else (none)) else (none)) else (none)) else (none)) else (none))) else (none)) else (none)) else (none))) else (some false))
theorem foghornlaw19_ReedOne.mono_l : ∀ k, (∀ y0 y1 y2, LeO (foghornlaw19_ReedOne.j0 k y0 y1 y2) (foghornlaw19_ReedOne.j0 (k + 1) y0 y1 y2)) ∧ (∀ y0 y1 y2 y3, LeO (foghornlaw19_ReedOne.l0 k y0 y1 y2 y3) (foghornlaw19_ReedOne.l0 (k + 1) y0 y1 y2 y3))
  | 0 => ⟨fun _ _ _ r h => by simp [foghornlaw19_ReedOne.j0] at h, fun _ _ _ _ r h => by simp [foghornlaw19_ReedOne.l0] at h⟩
  | k + 1 => by
    obtain ⟨ih0, ih1⟩ := foghornlaw19_ReedOne.mono_l k
    refine ⟨?_, ?_⟩
    · intro y0 y1 y2
      unfold foghornlaw19_ReedOne.j0
      repeat' first
      | (with_reducible exact ih0 _ _ _)
      | (with_reducible exact ih1 _ _ _ _)
      | (with_reducible exact foghornlaw19_works.mono _)
      | (with_reducible exact reed_Encode.mono _ _ _)
      | (with_reducible exact reed_Syndromes.mono _ _ _)
      | (with_reducible exact reed_Whole.mono _ _ _)
      | (with_reducible exact LeO.refl _)
      | (with_reducible exact LeO.none _)
      | (with_reducible refine LeO.ite ?_ ?_)
      | (with_reducible refine LeO.bind ?_ (fun _ => ?_))
      | exact ih0 _ _ _
      | exact ih1 _ _ _ _
      | exact foghornlaw19_works.mono _
      | exact reed_Encode.mono _ _ _
      | exact reed_Syndromes.mono _ _ _
      | exact reed_Whole.mono _ _ _
      | exact LeO.none _
      | refine LeO.ite ?_ ?_
      | refine LeO.bind ?_ (fun _ => ?_)
    · intro y0 y1 y2 y3
      unfold foghornlaw19_ReedOne.l0
      repeat' first
      | (with_reducible exact ih0 _ _ _)
      | (with_reducible exact ih1 _ _ _ _)
      | (with_reducible exact foghornlaw19_works.mono _)
      | (with_reducible exact reed_Encode.mono _ _ _)
      | (with_reducible exact reed_Syndromes.mono _ _ _)
      | (with_reducible exact reed_Whole.mono _ _ _)
      | (with_reducible exact LeO.refl _)
      | (with_reducible exact LeO.none _)
      | (with_reducible refine LeO.ite ?_ ?_)
      | (with_reducible refine LeO.bind ?_ (fun _ => ?_))
      | exact ih0 _ _ _
      | exact ih1 _ _ _ _
      | exact foghornlaw19_works.mono _
      | exact reed_Encode.mono _ _ _
      | exact reed_Syndromes.mono _ _ _
      | exact reed_Whole.mono _ _ _
      | exact LeO.none _
      | refine LeO.ite ?_ ?_
      | refine LeO.bind ?_ (fun _ => ?_)
theorem foghornlaw19_ReedOne.mono : ∀ a0 a1 k, LeO (foghornlaw19_ReedOne.f k a0 a1) (foghornlaw19_ReedOne.f (k + 1) a0 a1) := by
  intro a0 a1 k
  obtain ⟨ih0, ih1⟩ := foghornlaw19_ReedOne.mono_l k
  unfold foghornlaw19_ReedOne.f
  repeat' first
      | (with_reducible exact ih0 _ _ _)
      | (with_reducible exact ih1 _ _ _ _)
      | (with_reducible exact foghornlaw19_works.mono _)
      | (with_reducible exact reed_Encode.mono _ _ _)
      | (with_reducible exact reed_Syndromes.mono _ _ _)
      | (with_reducible exact reed_Whole.mono _ _ _)
      | (with_reducible exact LeO.refl _)
      | (with_reducible exact LeO.none _)
      | (with_reducible refine LeO.ite ?_ ?_)
      | (with_reducible refine LeO.bind ?_ (fun _ => ?_))
      | exact ih0 _ _ _
      | exact ih1 _ _ _ _
      | exact foghornlaw19_works.mono _
      | exact reed_Encode.mono _ _ _
      | exact reed_Syndromes.mono _ _ _
      | exact reed_Whole.mono _ _ _
      | exact LeO.none _
      | refine LeO.ite ?_ ?_
      | refine LeO.bind ?_ (fun _ => ?_)
/-- THE ONE PURE STATEMENT of foghornlaw19_ReedOne: yours. -/
def foghornlaw19_ReedOne.Pure : Prop := ∀ (a0 : ByteArray) (a1 : Int), a0.size ≤ 140737488351232 → (Lit.int .i64 a1).wf = true → ∃ k, foghornlaw19_ReedOne.f k a0 a1 = some true

/-! ### reed_Apart: function 23 -/
def reed_Apart.l0 : Nat → ByteArray → ByteArray → Int → Int → Int → Option (Int × Int)
  | 0, _, _, _, _, _ => none
  | k + 1, x0, x1, x6, x14, x15 => if x15 < x14 then (if 0 ≤ x15 then (if x15 < (x0.size : Int) then (if x15 < (x1.size : Int) then (if (bt x0 x15) = (bt x1 x15) then (reed_Apart.l0 k x0 x1 x6 x14 (wrap64 (x15 + 1))) else (reed_Apart.l0 k x0 x1 (wrap64 (x6 + 1)) x14 (wrap64 (x15 + 1)))) else (none)) else (none)) else (none)) else (some (x6, 0))
def reed_Apart.f (k : Nat) (a0 : ByteArray) (a1 : ByteArray) : Option (Int × Int) := if (a0.size : Int) = (a1.size : Int) then (reed_Apart.l0 k a0 a1 0 (a0.size : Int) 0) else (some (0, 1))
theorem reed_Apart.mono_l : ∀ k, (∀ y0 y1 y2 y3 y4, LeO (reed_Apart.l0 k y0 y1 y2 y3 y4) (reed_Apart.l0 (k + 1) y0 y1 y2 y3 y4))
  | 0 => fun _ _ _ _ _ r h => by simp [reed_Apart.l0] at h
  | k + 1 => by
    have ih0 := reed_Apart.mono_l k
    · intro y0 y1 y2 y3 y4
      unfold reed_Apart.l0
      repeat' first
      | (with_reducible exact ih0 _ _ _ _ _)
      | (with_reducible exact LeO.refl _)
      | (with_reducible exact LeO.none _)
      | (with_reducible refine LeO.ite ?_ ?_)
      | (with_reducible refine LeO.bind ?_ (fun _ => ?_))
      | exact ih0 _ _ _ _ _
      | exact LeO.none _
      | refine LeO.ite ?_ ?_
      | refine LeO.bind ?_ (fun _ => ?_)
theorem reed_Apart.mono : ∀ a0 a1 k, LeO (reed_Apart.f k a0 a1) (reed_Apart.f (k + 1) a0 a1) := by
  intro a0 a1 k
  have ih0 := reed_Apart.mono_l k
  unfold reed_Apart.f
  repeat' first
      | (with_reducible exact ih0 _ _ _ _ _)
      | (with_reducible exact LeO.refl _)
      | (with_reducible exact LeO.none _)
      | (with_reducible refine LeO.ite ?_ ?_)
      | (with_reducible refine LeO.bind ?_ (fun _ => ?_))
      | exact ih0 _ _ _ _ _
      | exact LeO.none _
      | refine LeO.ite ?_ ?_
      | refine LeO.bind ?_ (fun _ => ?_)

/-! ### foghornlaw19_ReedApart: function 5 -/
mutual
def foghornlaw19_ReedApart.j0 : Nat → Int → List Int → ByteArray → Bool → Option (Bool)
  | 0, _, _, _, _ => none
  | k + 1, x2, x3, x10, x104 => if x104 = true then (some false) else (if x10.size ≤ 9223372036854775807 then (foghornlaw19_ReedApart.l0 k x2 x3 x10 (bytesOf x10) 0 0) else (none))
def foghornlaw19_ReedApart.l0 : Nat → Int → List Int → ByteArray → List Int → Int → Int → Option (Bool)
  | 0, _, _, _, _, _, _ => none
  | k + 1, x2, x3, x10, x16, x17, x18 => if (wrap64 (x18 + 1)) < (x3.length : Int) then (foghornlaw19_ReedApart.j2 k x2 x3 x10 x16 x17 x18 (decide (x17 < x2))) else (foghornlaw19_ReedApart.j2 k x2 x3 x10 x16 x17 x18 false)
def foghornlaw19_ReedApart.j2 : Nat → Int → List Int → ByteArray → List Int → Int → Int → Bool → Option (Bool)
  | 0, _, _, _, _, _, _, _ => none
  | k + 1, x2, x3, x10, x16, x17, x18, x116 => if x116 = true then (if 0 ≤ x18 then (if x18 < (x3.length : Int) then (if (x16.length : Int) = 0 then (none) else (if 0 ≤ (Int.tmod (wrap64 (rd x3 x18)) (x16.length : Int)) then (if (Int.tmod (wrap64 (rd x3 x18)) (x16.length : Int)) < (x16.length : Int) then (if (Int.tmod (wrap64 (rd x3 x18)) (x16.length : Int)) < (x10.size : Int) then (if (rd x16 (Int.tmod (wrap64 (rd x3 x18)) (x16.length : Int))) = (bt x10 (Int.tmod (wrap64 (rd x3 x18)) (x16.length : Int))) then (if 0 ≤ (wrap64 (x18 + 1)) then (if (wrap64 (x18 + 1)) < (x3.length : Int) then (if (rd x3 (wrap64 (x18 + 1))) = 0 then (foghornlaw19_ReedApart.l0 k x2 x3 x10 x16 x17 (wrap64 (x18 + 2))) else (foghornlaw19_ReedApart.l0 k x2 x3 x10 (x16.set ((Int.tmod (wrap64 (rd x3 x18)) (x16.length : Int)) : Int).toNat (Go.bits .xor .u8 (rd x16 (Int.tmod (wrap64 (rd x3 x18)) (x16.length : Int))) (rd x3 (wrap64 (x18 + 1))))) (wrap64 (x17 + 1)) (wrap64 (x18 + 2)))) else (none)) else (none)) else (foghornlaw19_ReedApart.l0 k x2 x3 x10 x16 x17 (wrap64 (x18 + 2)))) else (none)) else (none)) else (none))) else (none)) else (none)) else ((reed_Whole.f k (strOfNums x16) x2).bind fun bt238 => ((reed_Apart.f k x10 (strOfNums x16)).bind fun bt240 => (if bt238.2 = 0 then (if bt240.2 = 0 then (if (bt238.1 == (x17 == 0)) = true then (some (bt240.1 == x17)) else (some false)) else (some false)) else (some false))))
end
def foghornlaw19_ReedApart.f (k : Nat) (a0 : ByteArray) (a1 : ByteArray) (a2 : Int) (l3 : List Int) : Option (Bool) := (foghornlaw19_works.f k).bind fun t218 => (if t218 = true then ((foghornlaw19_fit.f a0 a2).bind fun bt219 => ((foghornlaw19_fit.f a1 (wrap64 ((wrap64 (Int.tdiv bt219.2 2)) - 1))).bind fun bt221 => (if 0 ≤ (mn (bt219.1.size : Int) (bt221.1.size : Int)) then (if (mn (bt219.1.size : Int) (bt221.1.size : Int)) ≤ (bt219.1.size : Int) then (if (mn (bt219.1.size : Int) (bt221.1.size : Int)) ≤ (bt221.1.size : Int) then ((reed_Encode.f k (bt219.1.extract 0 ((mn (bt219.1.size : Int) (bt221.1.size : Int)) : Int).toNat) bt219.2).bind fun bt223 => ((reed_Encode.f k (bt221.1.extract 0 ((mn (bt219.1.size : Int) (bt221.1.size : Int)) : Int).toNat) bt219.2).bind fun bt225 => ((reed_Apart.f k bt223.1 bt225.1).bind fun bt227 => (if bt223.2 = 0 then (if bt225.2 = 0 then (if bt227.2 = 0 then (if (bt223.1.size : Int) = (wrap64 ((mn (bt219.1.size : Int) (bt221.1.size : Int)) + bt219.2)) then (if (bt219.1.extract 0 ((mn (bt219.1.size : Int) (bt221.1.size : Int)) : Int).toNat).toList = (bt221.1.extract 0 ((mn (bt219.1.size : Int) (bt221.1.size : Int)) : Int).toNat).toList then (foghornlaw19_ReedApart.j0 k bt219.2 l3 bt223.1 (bt227.1 != 0)) else (if bt227.1 < (wrap64 (bt219.2 + 1)) then (foghornlaw19_ReedApart.j0 k bt219.2 l3 bt223.1 true) else (foghornlaw19_ReedApart.j0 k bt219.2 l3 bt223.1 false))) else (foghornlaw19_ReedApart.j0 k bt219.2 l3 bt223.1 true)) else (foghornlaw19_ReedApart.j0 k bt219.2 l3 bt223.1 true)) else (foghornlaw19_ReedApart.j0 k bt219.2 l3 bt223.1 true)) else (foghornlaw19_ReedApart.j0 k bt219.2 l3 bt223.1 true))))) else (none)) else (none)) else (none)))) else (some false))
theorem foghornlaw19_ReedApart.mono_l : ∀ k, (∀ y0 y1 y2 y3, LeO (foghornlaw19_ReedApart.j0 k y0 y1 y2 y3) (foghornlaw19_ReedApart.j0 (k + 1) y0 y1 y2 y3)) ∧ (∀ y0 y1 y2 y3 y4 y5, LeO (foghornlaw19_ReedApart.l0 k y0 y1 y2 y3 y4 y5) (foghornlaw19_ReedApart.l0 (k + 1) y0 y1 y2 y3 y4 y5)) ∧ (∀ y0 y1 y2 y3 y4 y5 y6, LeO (foghornlaw19_ReedApart.j2 k y0 y1 y2 y3 y4 y5 y6) (foghornlaw19_ReedApart.j2 (k + 1) y0 y1 y2 y3 y4 y5 y6))
  | 0 => ⟨fun _ _ _ _ r h => by simp [foghornlaw19_ReedApart.j0] at h, fun _ _ _ _ _ _ r h => by simp [foghornlaw19_ReedApart.l0] at h, fun _ _ _ _ _ _ _ r h => by simp [foghornlaw19_ReedApart.j2] at h⟩
  | k + 1 => by
    obtain ⟨ih0, ih1, ih2⟩ := foghornlaw19_ReedApart.mono_l k
    refine ⟨?_, ?_, ?_⟩
    · intro y0 y1 y2 y3
      unfold foghornlaw19_ReedApart.j0
      repeat' first
      | (with_reducible exact ih0 _ _ _ _)
      | (with_reducible exact ih1 _ _ _ _ _ _)
      | (with_reducible exact ih2 _ _ _ _ _ _ _)
      | (with_reducible exact foghornlaw19_works.mono _)
      | (with_reducible exact reed_Apart.mono _ _ _)
      | (with_reducible exact reed_Encode.mono _ _ _)
      | (with_reducible exact reed_Whole.mono _ _ _)
      | (with_reducible exact LeO.refl _)
      | (with_reducible exact LeO.none _)
      | (with_reducible refine LeO.ite ?_ ?_)
      | (with_reducible refine LeO.bind ?_ (fun _ => ?_))
      | exact ih0 _ _ _ _
      | exact ih1 _ _ _ _ _ _
      | exact ih2 _ _ _ _ _ _ _
      | exact foghornlaw19_works.mono _
      | exact reed_Apart.mono _ _ _
      | exact reed_Encode.mono _ _ _
      | exact reed_Whole.mono _ _ _
      | exact LeO.none _
      | refine LeO.ite ?_ ?_
      | refine LeO.bind ?_ (fun _ => ?_)
    · intro y0 y1 y2 y3 y4 y5
      unfold foghornlaw19_ReedApart.l0
      repeat' first
      | (with_reducible exact ih0 _ _ _ _)
      | (with_reducible exact ih1 _ _ _ _ _ _)
      | (with_reducible exact ih2 _ _ _ _ _ _ _)
      | (with_reducible exact foghornlaw19_works.mono _)
      | (with_reducible exact reed_Apart.mono _ _ _)
      | (with_reducible exact reed_Encode.mono _ _ _)
      | (with_reducible exact reed_Whole.mono _ _ _)
      | (with_reducible exact LeO.refl _)
      | (with_reducible exact LeO.none _)
      | (with_reducible refine LeO.ite ?_ ?_)
      | (with_reducible refine LeO.bind ?_ (fun _ => ?_))
      | exact ih0 _ _ _ _
      | exact ih1 _ _ _ _ _ _
      | exact ih2 _ _ _ _ _ _ _
      | exact foghornlaw19_works.mono _
      | exact reed_Apart.mono _ _ _
      | exact reed_Encode.mono _ _ _
      | exact reed_Whole.mono _ _ _
      | exact LeO.none _
      | refine LeO.ite ?_ ?_
      | refine LeO.bind ?_ (fun _ => ?_)
    · intro y0 y1 y2 y3 y4 y5 y6
      unfold foghornlaw19_ReedApart.j2
      repeat' first
      | (with_reducible exact ih0 _ _ _ _)
      | (with_reducible exact ih1 _ _ _ _ _ _)
      | (with_reducible exact ih2 _ _ _ _ _ _ _)
      | (with_reducible exact foghornlaw19_works.mono _)
      | (with_reducible exact reed_Apart.mono _ _ _)
      | (with_reducible exact reed_Encode.mono _ _ _)
      | (with_reducible exact reed_Whole.mono _ _ _)
      | (with_reducible exact LeO.refl _)
      | (with_reducible exact LeO.none _)
      | (with_reducible refine LeO.ite ?_ ?_)
      | (with_reducible refine LeO.bind ?_ (fun _ => ?_))
      | exact ih0 _ _ _ _
      | exact ih1 _ _ _ _ _ _
      | exact ih2 _ _ _ _ _ _ _
      | exact foghornlaw19_works.mono _
      | exact reed_Apart.mono _ _ _
      | exact reed_Encode.mono _ _ _
      | exact reed_Whole.mono _ _ _
      | exact LeO.none _
      | refine LeO.ite ?_ ?_
      | refine LeO.bind ?_ (fun _ => ?_)
theorem foghornlaw19_ReedApart.mono : ∀ a0 a1 a2 a3 k, LeO (foghornlaw19_ReedApart.f k a0 a1 a2 a3) (foghornlaw19_ReedApart.f (k + 1) a0 a1 a2 a3) := by
  intro a0 a1 a2 a3 k
  obtain ⟨ih0, ih1, ih2⟩ := foghornlaw19_ReedApart.mono_l k
  unfold foghornlaw19_ReedApart.f
  repeat' first
      | (with_reducible exact ih0 _ _ _ _)
      | (with_reducible exact ih1 _ _ _ _ _ _)
      | (with_reducible exact ih2 _ _ _ _ _ _ _)
      | (with_reducible exact foghornlaw19_works.mono _)
      | (with_reducible exact reed_Apart.mono _ _ _)
      | (with_reducible exact reed_Encode.mono _ _ _)
      | (with_reducible exact reed_Whole.mono _ _ _)
      | (with_reducible exact LeO.refl _)
      | (with_reducible exact LeO.none _)
      | (with_reducible refine LeO.ite ?_ ?_)
      | (with_reducible refine LeO.bind ?_ (fun _ => ?_))
      | exact ih0 _ _ _ _
      | exact ih1 _ _ _ _ _ _
      | exact ih2 _ _ _ _ _ _ _
      | exact foghornlaw19_works.mono _
      | exact reed_Apart.mono _ _ _
      | exact reed_Encode.mono _ _ _
      | exact reed_Whole.mono _ _ _
      | exact LeO.none _
      | refine LeO.ite ?_ ?_
      | refine LeO.bind ?_ (fun _ => ?_)
def foghornlaw19_ReedApart.T19 : Bool × List (List Nat × List Nat) := (true, [([], []), ([], []), ([0, 1], [0, 1]), ([2], [2]), ([], []), ([], []), ([4, 5], [4, 5]), ([3, 6], [3, 6]), ([7], [7]), ([8], [8]), ([8], [8]), ([10, 8], [8, 10]), ([9, 11, 8], [8, 9, 11]), ([12, 8], [8, 12]), ([13, 8], [8, 13]), ([8, 14], [8, 14])])
def foghornlaw19_ReedApart.B19 : List Nat := [0, 0, 3, 7, 0, 0, 48, 127, 255, 511, 511, 1535, 4095, 8191, 16383, 32767]
theorem foghornlaw19_ReedApart.tab19 : rtab .any (opsOf Try.f5 19) = foghornlaw19_ReedApart.T19 := by kernel_rfl
theorem foghornlaw19_ReedApart.bits19 : waitsOk foghornlaw19_ReedApart.T19.2 foghornlaw19_ReedApart.B19 = true := by kernel_rfl
def foghornlaw19_ReedApart.T20 : Bool × List (List Nat × List Nat) := (true, [([], []), ([], []), ([], []), ([], []), ([2, 3], [2, 3]), ([4], [4]), ([], []), ([], []), ([7], [7]), ([6, 8], [6, 8]), ([9], [9]), ([5, 10], [5, 10]), ([0, 1, 0, 1, 2, 3, 4, 5, 6, 7, 8, 9, 10, 11], [0, 1]), ([12, 11, 0, 1, 2, 3, 4, 5, 6, 7, 8, 9, 10, 11], [11, 12])])
def foghornlaw19_ReedApart.B20 : List Nat := [0, 0, 0, 0, 12, 28, 0, 0, 128, 448, 960, 2044, 4095, 8191]
theorem foghornlaw19_ReedApart.tab20 : rtab .any (opsOf Try.f5 20) = foghornlaw19_ReedApart.T20 := by kernel_rfl
theorem foghornlaw19_ReedApart.bits20 : waitsOk foghornlaw19_ReedApart.T20.2 foghornlaw19_ReedApart.B20 = true := by kernel_rfl
/-- THE ONE PURE STATEMENT of foghornlaw19_ReedApart: yours. -/
def foghornlaw19_ReedApart.Pure : Prop := ∀ (a0 : ByteArray) (a1 : ByteArray) (a2 : Int) (l3 : List Int), a0.size ≤ 140737488351232 → a1.size ≤ 140737488351232 → (Lit.int .i64 a2).wf = true → l3.length ≤ maxLen → l3.length * 1 ≤ 140737488351232 → (∀ x ∈ l3, (Lit.int .u8 x).wf = true) → ∃ k, foghornlaw19_ReedApart.f k a0 a1 a2 l3 = some true

end Go.Proofs.Ytncoakokdajibaa.Q
