-- Printed by myprint.py (ours) over the kit's printer, out of the translation.
import Derived.Test.YtncoakokdajibaaMendNamesK0
namespace Go.Proofs.Ytncoakokdajibaa.Q
open Go.RowKit Go.Proofs.YtncoakokdajibaaW.PrintWords Go.Proofs.YtncoakokdajibaaW.PrintLast Go.Proofs.YtncoakokdajibaaW.PrintMore
attribute [local go_sem] ArrW.ptrOf_slice unary_neg_float unary_neg_complex run_store_float run_store_complex max2_int min2_int max_two min_two max_three min_three max_four min_four   -- for this text's walks alone
set_option linter.unusedVariables false
set_option linter.unusedSimpArgs false

/-! ### field_Times: function 64 -/
def field_Times.l0 : Nat → Int → Int → Int → Option (Int)
  | 0, _, _, _ => none
  | k + 1, x0, x1, x5 => if x1 > 0 then (field_Times.l0 k (Go.bits .xor .u8 ((x0 * 2) % 256) (((x0 / 128) * 29) % 256)) (x1 / 2) (Go.bits .xor .u8 x5 ((x0 * (Go.bits .and .u8 x1 1)) % 256))) else (some x5)
def field_Times.f (k : Nat) (a0 : Int) (a1 : Int) : Option (Int) := field_Times.l0 k a0 a1 0
theorem field_Times.mono_l : ∀ k, (∀ y0 y1 y2, LeO (field_Times.l0 k y0 y1 y2) (field_Times.l0 (k + 1) y0 y1 y2))
  | 0 => fun _ _ _ r h => by simp [field_Times.l0] at h
  | k + 1 => by
    have ih0 := field_Times.mono_l k
    · intro y0 y1 y2
      unfold field_Times.l0
      repeat' first
      | (with_reducible exact ih0 _ _ _)
      | (with_reducible exact LeO.refl _)
      | (with_reducible exact LeO.none _)
      | (with_reducible refine LeO.ite ?_ ?_)
      | (with_reducible refine LeO.bind ?_ (fun _ => ?_))
      | exact ih0 _ _ _
      | exact LeO.none _
      | refine LeO.ite ?_ ?_
      | refine LeO.bind ?_ (fun _ => ?_)
theorem field_Times.mono : ∀ a0 a1 k, LeO (field_Times.f k a0 a1) (field_Times.f (k + 1) a0 a1) := by
  intro a0 a1 k
  have ih0 := field_Times.mono_l k
  unfold field_Times.f
  repeat' first
      | (with_reducible exact ih0 _ _ _)
      | (with_reducible exact LeO.refl _)
      | (with_reducible exact LeO.none _)
      | (with_reducible refine LeO.ite ?_ ?_)
      | (with_reducible refine LeO.bind ?_ (fun _ => ?_))
      | exact ih0 _ _ _
      | exact LeO.none _
      | refine LeO.ite ?_ ?_
      | refine LeO.bind ?_ (fun _ => ?_)

/-! ### slices_Clone_uint8_uint8: function 84 -/
def slices_Clone_uint8_uint8.f (l0 : List Int) : Option (List Int) := if l0.length < 140737488355328 then some l0 else none

/-! ### field_poly: function 79 -/
def field_poly.l0 : Nat → List Int → Int → Option (List Int)
  | 0, _, _ => none
  | k + 1, x0, x3 => if x3 > 0 then (if 0 ≤ (wrap64 (x3 - 1)) then (if (wrap64 (x3 - 1)) < (x0.length : Int) then (if (rd x0 (wrap64 (x3 - 1))) = 0 then (field_poly.l0 k x0 (wrap64 (x3 - 1))) else (if 0 ≤ x3 then (if x3 ≤ (x0.length : Int) then ((slices_Clone_uint8_uint8.f (x0.take (x3 : Int).toNat)).bind fun t103 => (some t103)) else (none)) else (none))) else (none)) else (none)) else (if 0 ≤ x3 then (if x3 ≤ (x0.length : Int) then ((slices_Clone_uint8_uint8.f (x0.take (x3 : Int).toNat)).bind fun t107 => (some t107)) else (none)) else (none))
def field_poly.f (k : Nat) (l0 : List Int) : Option (List Int) := field_poly.l0 k l0 (l0.length : Int)
theorem field_poly.mono_l : ∀ k, (∀ y0 y1, LeO (field_poly.l0 k y0 y1) (field_poly.l0 (k + 1) y0 y1))
  | 0 => fun _ _ r h => by simp [field_poly.l0] at h
  | k + 1 => by
    have ih0 := field_poly.mono_l k
    · intro y0 y1
      unfold field_poly.l0
      repeat' first
      | (with_reducible exact ih0 _ _)
      | (with_reducible exact LeO.refl _)
      | (with_reducible exact LeO.none _)
      | (with_reducible refine LeO.ite ?_ ?_)
      | (with_reducible refine LeO.bind ?_ (fun _ => ?_))
      | exact ih0 _ _
      | exact LeO.none _
      | refine LeO.ite ?_ ?_
      | refine LeO.bind ?_ (fun _ => ?_)
theorem field_poly.mono : ∀ a0 k, LeO (field_poly.f k a0) (field_poly.f (k + 1) a0) := by
  intro a0 k
  have ih0 := field_poly.mono_l k
  unfold field_poly.f
  repeat' first
      | (with_reducible exact ih0 _ _)
      | (with_reducible exact LeO.refl _)
      | (with_reducible exact LeO.none _)
      | (with_reducible refine LeO.ite ?_ ?_)
      | (with_reducible refine LeO.bind ?_ (fun _ => ?_))
      | exact ih0 _ _
      | exact LeO.none _
      | refine LeO.ite ?_ ?_
      | refine LeO.bind ?_ (fun _ => ?_)

/-! ### field_product: function 80 -/
mutual
def field_product.l0 : Nat → List Int → List Int → List Int → Int → Int → Option (List Int)
  | 0, _, _, _, _, _ => none
  | k + 1, x1, x5, x16, x17, x18 => if x18 < x17 then (if 0 ≤ x18 then (if x18 < (x16.length : Int) then (field_product.l1 k x1 x5 x18 (rd x16 x18) x16 x17 x18 x1 (x1.length : Int) 0) else (none)) else (none)) else ((field_poly.f k x5).bind fun t113 => (some t113))
def field_product.l1 : Nat → List Int → List Int → Int → Int → List Int → Int → Int → List Int → Int → Int → Option (List Int)
  | 0, _, _, _, _, _, _, _, _, _, _ => none
  | k + 1, x1, x5, x6, x7, x16, x17, x18, x23, x24, x25 => if x25 < x24 then (if 0 ≤ x25 then (if x25 < (x23.length : Int) then (if 0 ≤ (wrap64 (x6 + x25)) then (if (wrap64 (x6 + x25)) < (x5.length : Int) then ((field_Times.f k x7 (rd x23 x25)).bind fun t119 => (field_product.l1 k x1 (x5.set ((wrap64 (x6 + x25)) : Int).toNat (Go.bits .xor .u8 (rd x5 (wrap64 (x6 + x25))) t119)) x6 x7 x16 x17 x18 x23 x24 (wrap64 (x25 + 1)))) else (none)) else (none)) else (none)) else (none)) else (field_product.l0 k x1 x5 x16 x17 (wrap64 (x18 + 1)))
end
def field_product.f (k : Nat) (l0 : List Int) (l1 : List Int) : Option (List Int) := if 0 ≤ (wrap64 ((l0.length : Int) + (l1.length : Int))) then (if (wrap64 ((l0.length : Int) + (l1.length : Int)) : Int).toNat ≤ 281474976710656 then (field_product.l0 k l1 (List.replicate (wrap64 ((l0.length : Int) + (l1.length : Int)) : Int).toNat 0) l0 (l0.length : Int) 0) else (none)) else (none)
theorem field_product.mono_l : ∀ k, (∀ y0 y1 y2 y3 y4, LeO (field_product.l0 k y0 y1 y2 y3 y4) (field_product.l0 (k + 1) y0 y1 y2 y3 y4)) ∧ (∀ y0 y1 y2 y3 y4 y5 y6 y7 y8 y9, LeO (field_product.l1 k y0 y1 y2 y3 y4 y5 y6 y7 y8 y9) (field_product.l1 (k + 1) y0 y1 y2 y3 y4 y5 y6 y7 y8 y9))
  | 0 => ⟨fun _ _ _ _ _ r h => by simp [field_product.l0] at h, fun _ _ _ _ _ _ _ _ _ _ r h => by simp [field_product.l1] at h⟩
  | k + 1 => by
    obtain ⟨ih0, ih1⟩ := field_product.mono_l k
    refine ⟨?_, ?_⟩
    · intro y0 y1 y2 y3 y4
      unfold field_product.l0
      repeat' first
      | (with_reducible exact ih0 _ _ _ _ _)
      | (with_reducible exact ih1 _ _ _ _ _ _ _ _ _ _)
      | (with_reducible exact field_Times.mono _ _ _)
      | (with_reducible exact field_poly.mono _ _)
      | (with_reducible exact LeO.refl _)
      | (with_reducible exact LeO.none _)
      | (with_reducible refine LeO.ite ?_ ?_)
      | (with_reducible refine LeO.bind ?_ (fun _ => ?_))
      | exact ih0 _ _ _ _ _
      | exact ih1 _ _ _ _ _ _ _ _ _ _
      | exact field_Times.mono _ _ _
      | exact field_poly.mono _ _
      | exact LeO.none _
      | refine LeO.ite ?_ ?_
      | refine LeO.bind ?_ (fun _ => ?_)
    · intro y0 y1 y2 y3 y4 y5 y6 y7 y8 y9
      unfold field_product.l1
      repeat' first
      | (with_reducible exact ih0 _ _ _ _ _)
      | (with_reducible exact ih1 _ _ _ _ _ _ _ _ _ _)
      | (with_reducible exact field_Times.mono _ _ _)
      | (with_reducible exact field_poly.mono _ _)
      | (with_reducible exact LeO.refl _)
      | (with_reducible exact LeO.none _)
      | (with_reducible refine LeO.ite ?_ ?_)
      | (with_reducible refine LeO.bind ?_ (fun _ => ?_))
      | exact ih0 _ _ _ _ _
      | exact ih1 _ _ _ _ _ _ _ _ _ _
      | exact field_Times.mono _ _ _
      | exact field_poly.mono _ _
      | exact LeO.none _
      | refine LeO.ite ?_ ?_
      | refine LeO.bind ?_ (fun _ => ?_)
theorem field_product.mono : ∀ a0 a1 k, LeO (field_product.f k a0 a1) (field_product.f (k + 1) a0 a1) := by
  intro a0 a1 k
  obtain ⟨ih0, ih1⟩ := field_product.mono_l k
  unfold field_product.f
  repeat' first
      | (with_reducible exact ih0 _ _ _ _ _)
      | (with_reducible exact ih1 _ _ _ _ _ _ _ _ _ _)
      | (with_reducible exact field_Times.mono _ _ _)
      | (with_reducible exact field_poly.mono _ _)
      | (with_reducible exact LeO.refl _)
      | (with_reducible exact LeO.none _)
      | (with_reducible refine LeO.ite ?_ ?_)
      | (with_reducible refine LeO.bind ?_ (fun _ => ?_))
      | exact ih0 _ _ _ _ _
      | exact ih1 _ _ _ _ _ _ _ _ _ _
      | exact field_Times.mono _ _ _
      | exact field_poly.mono _ _
      | exact LeO.none _
      | refine LeO.ite ?_ ?_
      | refine LeO.bind ?_ (fun _ => ?_)
def field_product.T8 : Bool × List (List Nat × List Nat) := (true, [([], []), ([], []), ([], []), ([1, 2], [1, 2]), ([0, 3], [0, 3]), ([4], [4]), ([], []), ([], []), ([6, 7], [6, 7]), ([5, 8], [5, 8]), ([0, 3, 0, 1, 2, 3, 4, 5, 6, 7, 8, 9], [0, 3]), ([10, 9, 8, 0, 1, 2, 3, 4, 5, 6, 7, 8, 9], [9, 10])])
def field_product.B8 : List Nat := [0, 0, 0, 6, 15, 31, 0, 0, 192, 511, 1023, 2047]
theorem field_product.tab8 : rtab .any (opsOf Try.f80 8) = field_product.T8 := by kernel_rfl
theorem field_product.bits8 : waitsOk field_product.T8.2 field_product.B8 = true := by kernel_rfl

/-! ### field_Of: function 42 -/
def field_Of.l0 : Nat → List Int → List Int → Int → Int → Option (List Int × Int)
  | 0, _, _, _, _ => none
  | k + 1, x4, x11, x12, x13 => if x13 < x12 then (if 0 ≤ x13 then (if x13 < (x11.length : Int) then ((field_product.f k x4 (([rd x11 x13, 1] : List Int))).bind fun t128 => (field_Of.l0 k t128 x11 x12 (wrap64 (x13 + 1)))) else (none)) else (none)) else (some (x4, 0))
def field_Of.f (k : Nat) (l0 : List Int) : Option (List Int × Int) := if (l0.length : Int) ≥ 512 then (some (([] : List Int), 1)) else (field_Of.l0 k (([1] : List Int)) l0 (l0.length : Int) 0)
theorem field_Of.mono_l : ∀ k, (∀ y0 y1 y2 y3, LeO (field_Of.l0 k y0 y1 y2 y3) (field_Of.l0 (k + 1) y0 y1 y2 y3))
  | 0 => fun _ _ _ _ r h => by simp [field_Of.l0] at h
  | k + 1 => by
    have ih0 := field_Of.mono_l k
    · intro y0 y1 y2 y3
      unfold field_Of.l0
      repeat' first
      | (with_reducible exact ih0 _ _ _ _)
      | (with_reducible exact field_product.mono _ _ _)
      | (with_reducible exact LeO.refl _)
      | (with_reducible exact LeO.none _)
      | (with_reducible refine LeO.ite ?_ ?_)
      | (with_reducible refine LeO.bind ?_ (fun _ => ?_))
      | exact ih0 _ _ _ _
      | exact field_product.mono _ _ _
      | exact LeO.none _
      | refine LeO.ite ?_ ?_
      | refine LeO.bind ?_ (fun _ => ?_)
theorem field_Of.mono : ∀ a0 k, LeO (field_Of.f k a0) (field_Of.f (k + 1) a0) := by
  intro a0 k
  have ih0 := field_Of.mono_l k
  unfold field_Of.f
  repeat' first
      | (with_reducible exact ih0 _ _ _ _)
      | (with_reducible exact field_product.mono _ _ _)
      | (with_reducible exact LeO.refl _)
      | (with_reducible exact LeO.none _)
      | (with_reducible refine LeO.ite ?_ ?_)
      | (with_reducible refine LeO.bind ?_ (fun _ => ?_))
      | exact ih0 _ _ _ _
      | exact field_product.mono _ _ _
      | exact LeO.none _
      | refine LeO.ite ?_ ?_
      | refine LeO.bind ?_ (fun _ => ?_)

/-! ### field_raised: function 83 -/
def field_raised.l0 : Nat → Int → Int → Int → Option (Int)
  | 0, _, _, _ => none
  | k + 1, x0, x1, x5 => if x1 > 0 then (if (Go.bits .and .i64 x1 1) > 0 then ((field_Times.f k x5 x0).bind fun t131 => ((field_Times.f k x0 x0).bind fun t132 => (field_raised.l0 k t132 (x1 / 2) t131))) else ((field_Times.f k x0 x0).bind fun t133 => (field_raised.l0 k t133 (x1 / 2) x5))) else (some x5)
def field_raised.f (k : Nat) (a0 : Int) (a1 : Int) : Option (Int) := field_raised.l0 k a0 a1 1
theorem field_raised.mono_l : ∀ k, (∀ y0 y1 y2, LeO (field_raised.l0 k y0 y1 y2) (field_raised.l0 (k + 1) y0 y1 y2))
  | 0 => fun _ _ _ r h => by simp [field_raised.l0] at h
  | k + 1 => by
    have ih0 := field_raised.mono_l k
    · intro y0 y1 y2
      unfold field_raised.l0
      repeat' first
      | (with_reducible exact ih0 _ _ _)
      | (with_reducible exact field_Times.mono _ _ _)
      | (with_reducible exact LeO.refl _)
      | (with_reducible exact LeO.none _)
      | (with_reducible refine LeO.ite ?_ ?_)
      | (with_reducible refine LeO.bind ?_ (fun _ => ?_))
      | exact ih0 _ _ _
      | exact field_Times.mono _ _ _
      | exact LeO.none _
      | refine LeO.ite ?_ ?_
      | refine LeO.bind ?_ (fun _ => ?_)
theorem field_raised.mono : ∀ a0 a1 k, LeO (field_raised.f k a0 a1) (field_raised.f (k + 1) a0 a1) := by
  intro a0 a1 k
  have ih0 := field_raised.mono_l k
  unfold field_raised.f
  repeat' first
      | (with_reducible exact ih0 _ _ _)
      | (with_reducible exact field_Times.mono _ _ _)
      | (with_reducible exact LeO.refl _)
      | (with_reducible exact LeO.none _)
      | (with_reducible refine LeO.ite ?_ ?_)
      | (with_reducible refine LeO.bind ?_ (fun _ => ?_))
      | exact ih0 _ _ _
      | exact field_Times.mono _ _ _
      | exact LeO.none _
      | refine LeO.ite ?_ ?_
      | refine LeO.bind ?_ (fun _ => ?_)

/-! ### field_Exp: function 65 -/
def field_Exp.f (k : Nat) (a0 : Int) : Option (Int) := (field_raised.f k 2 (Int.tmod (wrap64 ((Int.tmod a0 255) + 255)) 255)).bind fun t134 => (some t134)
theorem field_Exp.mono : ∀ a0 k, LeO (field_Exp.f k a0) (field_Exp.f (k + 1) a0) := by
  intro a0 k
  unfold field_Exp.f
  repeat' first
      | (with_reducible exact field_raised.mono _ _ _)
      | (with_reducible exact LeO.refl _)
      | (with_reducible exact LeO.none _)
      | (with_reducible refine LeO.ite ?_ ?_)
      | (with_reducible refine LeO.bind ?_ (fun _ => ?_))
      | exact field_raised.mono _ _ _
      | exact LeO.none _
      | refine LeO.ite ?_ ?_
      | refine LeO.bind ?_ (fun _ => ?_)

/-! ### reed_checks: function 71 -/
def reed_checks.f (a0 : Int) : Option (Bool) := if a0 ≥ 2 then (if a0 ≤ 64 then (some ((Int.tmod a0 2) == 0)) else (some false)) else (some false)

/-! ### reed_Generator: function 33 -/
def reed_Generator.l0 : Nat → List Int → Int → Int → Option (List Int × Int)
  | 0, _, _, _ => none
  | k + 1, x4, x11, x12 => if x12 < x11 then ((field_Exp.f k x12).bind fun t139 => (if 0 ≤ x12 then (if x12 < (x4.length : Int) then (reed_Generator.l0 k (x4.set (x12 : Int).toNat t139) x11 (wrap64 (x12 + 1))) else (none)) else (none))) else ((field_Of.f k x4).bind fun bt141 => (some (bt141.1, bt141.2)))
def reed_Generator.f (k : Nat) (a0 : Int) : Option (List Int × Int) := (reed_checks.f a0).bind fun t135 => (if t135 = true then (if 0 ≤ a0 then (if (a0 : Int).toNat ≤ 281474976710656 then (reed_Generator.l0 k (List.replicate (a0 : Int).toNat 0) a0 0) else (none)) else (none)) else (some (([] : List Int), 1)))
theorem reed_Generator.mono_l : ∀ k, (∀ y0 y1 y2, LeO (reed_Generator.l0 k y0 y1 y2) (reed_Generator.l0 (k + 1) y0 y1 y2))
  | 0 => fun _ _ _ r h => by simp [reed_Generator.l0] at h
  | k + 1 => by
    have ih0 := reed_Generator.mono_l k
    · intro y0 y1 y2
      unfold reed_Generator.l0
      repeat' first
      | (with_reducible exact ih0 _ _ _)
      | (with_reducible exact field_Exp.mono _ _)
      | (with_reducible exact field_Of.mono _ _)
      | (with_reducible exact LeO.refl _)
      | (with_reducible exact LeO.none _)
      | (with_reducible refine LeO.ite ?_ ?_)
      | (with_reducible refine LeO.bind ?_ (fun _ => ?_))
      | exact ih0 _ _ _
      | exact field_Exp.mono _ _
      | exact field_Of.mono _ _
      | exact LeO.none _
      | refine LeO.ite ?_ ?_
      | refine LeO.bind ?_ (fun _ => ?_)
theorem reed_Generator.mono : ∀ a0 k, LeO (reed_Generator.f k a0) (reed_Generator.f (k + 1) a0) := by
  intro a0 k
  have ih0 := reed_Generator.mono_l k
  unfold reed_Generator.f
  repeat' first
      | (with_reducible exact ih0 _ _ _)
      | (with_reducible exact field_Exp.mono _ _)
      | (with_reducible exact field_Of.mono _ _)
      | (with_reducible exact LeO.refl _)
      | (with_reducible exact LeO.none _)
      | (with_reducible refine LeO.ite ?_ ?_)
      | (with_reducible refine LeO.bind ?_ (fun _ => ?_))
      | exact ih0 _ _ _
      | exact field_Exp.mono _ _
      | exact field_Of.mono _ _
      | exact LeO.none _
      | refine LeO.ite ?_ ?_
      | refine LeO.bind ?_ (fun _ => ?_)

/-! ### reed_Check: function 34 -/
def reed_Check.f (a0 : Int) (a1 : Int) : Option (Int) := (reed_checks.f a1).bind fun t145 => (if t145 = true then (if a0 ≤ a1 then (some 1) else (if a0 > 255 then (some 1) else (some 0))) else (some 1))

/-! ### reed_Encode: function 19 -/
mutual
def reed_Encode.j0 : Nat → ByteArray → Int → Bool → Option (ByteArray × Int)
  | 0, _, _, _ => none
  | k + 1, x0, x1, x22 => if x22 = true then (some ((⟨#[]⟩ : ByteArray), 1)) else ((reed_Generator.f k x1).bind fun bt147 => (reed_Encode.l0 k x0 x1 bt147.1 (List.replicate 64 0) (x0.size : Int) 0))
def reed_Encode.l0 : Nat → ByteArray → Int → List Int → List Int → Int → Int → Option (ByteArray × Int)
  | 0, _, _, _, _, _, _ => none
  | k + 1, x0, x1, x6, x8, x29, x30 => if x30 < x29 then (if 0 ≤ x30 then (if x30 < (x0.size : Int) then (if 0 < 64 then (if 0 < (x8.length : Int) then (if 0 ≤ (wrap64 (x1 - 1)) then (if (wrap64 (x1 - 1)) ≤ 64 then (if (wrap64 (x1 - 1)) ≤ (x8.length : Int) then (if 1 ≤ (wrap64 (x1 - 1)) then (if 1 ≤ x1 then (if x1 ≤ 64 then (if x1 ≤ (x8.length : Int) then (if (wrap64 (x1 - 1)) < 64 then (if (wrap64 (x1 - 1)) < (x8.length : Int) then (reed_Encode.l1 k x0 x1 x6 ((ArrW.setFrom x8 0 ((x8.drop 1).take ((wrap64 (x1 - 1)) : Int).toNat)).set ((wrap64 (x1 - 1)) : Int).toNat 0) (Go.bits .xor .u8 (bt x0 x30) (rd x8 0)) x29 x30 x1 0) else (none)) else (none)) else (none)) else (none)) else (none)) else (none)) else (none)) else (none)) else (none)) else (none)) else (none)) else (none)) else (none)) else (if 0 ≤ x1 then (if x1 ≤ 64 then (if x1 ≤ (x8.length : Int) then (if 1 ≤ x1 then (if x0.size + (strOfNums (x8.take (x1 : Int).toNat)).size ≤ 9223372036854775807 then (some (x0 ++ (strOfNums (x8.take (x1 : Int).toNat)), 0)) else (none)) else (none)) else (none)) else (none)) else (none))
def reed_Encode.l1 : Nat → ByteArray → Int → List Int → List Int → Int → Int → Int → Int → Int → Option (ByteArray × Int)
  | 0, _, _, _, _, _, _, _, _, _ => none
  | k + 1, x0, x1, x6, x8, x10, x29, x30, x48, x49 => if x49 < x48 then (if 0 ≤ x49 then (if x49 < 64 then (if x49 < (x8.length : Int) then (if 0 ≤ (wrap64 ((wrap64 (x1 - 1)) - x49)) then (if (wrap64 ((wrap64 (x1 - 1)) - x49)) < (x6.length : Int) then ((field_Times.f k x10 (rd x6 (wrap64 ((wrap64 (x1 - 1)) - x49)))).bind fun t159 => (reed_Encode.l1 k x0 x1 x6 (x8.set (x49 : Int).toNat (Go.bits .xor .u8 (rd x8 x49) t159)) x10 x29 x30 x48 (wrap64 (x49 + 1)))) else (none)) else (none)) else (none)) else (none)) else (none)) else (reed_Encode.l0 k x0 x1 x6 x8 x29 (wrap64 (x30 + 1)))
end
def reed_Encode.f (k : Nat) (a0 : ByteArray) (a1 : Int) : Option (ByteArray × Int) := (reed_Check.f (wrap64 ((a0.size : Int) + a1)) a1).bind fun t146 => (if t146 = 0 then (reed_Encode.j0 k a0 a1 (a0.toList == ([] : List UInt8))) else (reed_Encode.j0 k a0 a1 true))
theorem reed_Encode.mono_l : ∀ k, (∀ y0 y1 y2, LeO (reed_Encode.j0 k y0 y1 y2) (reed_Encode.j0 (k + 1) y0 y1 y2)) ∧ (∀ y0 y1 y2 y3 y4 y5, LeO (reed_Encode.l0 k y0 y1 y2 y3 y4 y5) (reed_Encode.l0 (k + 1) y0 y1 y2 y3 y4 y5)) ∧ (∀ y0 y1 y2 y3 y4 y5 y6 y7 y8, LeO (reed_Encode.l1 k y0 y1 y2 y3 y4 y5 y6 y7 y8) (reed_Encode.l1 (k + 1) y0 y1 y2 y3 y4 y5 y6 y7 y8))
  | 0 => ⟨fun _ _ _ r h => by simp [reed_Encode.j0] at h, fun _ _ _ _ _ _ r h => by simp [reed_Encode.l0] at h, fun _ _ _ _ _ _ _ _ _ r h => by simp [reed_Encode.l1] at h⟩
  | k + 1 => by
    obtain ⟨ih0, ih1, ih2⟩ := reed_Encode.mono_l k
    refine ⟨?_, ?_, ?_⟩
    · intro y0 y1 y2
      unfold reed_Encode.j0
      repeat' first
      | (with_reducible exact ih0 _ _ _)
      | (with_reducible exact ih1 _ _ _ _ _ _)
      | (with_reducible exact ih2 _ _ _ _ _ _ _ _ _)
      | (with_reducible exact field_Times.mono _ _ _)
      | (with_reducible exact reed_Generator.mono _ _)
      | (with_reducible exact LeO.refl _)
      | (with_reducible exact LeO.none _)
      | (with_reducible refine LeO.ite ?_ ?_)
      | (with_reducible refine LeO.bind ?_ (fun _ => ?_))
      | exact ih0 _ _ _
      | exact ih1 _ _ _ _ _ _
      | exact ih2 _ _ _ _ _ _ _ _ _
      | exact field_Times.mono _ _ _
      | exact reed_Generator.mono _ _
      | exact LeO.none _
      | refine LeO.ite ?_ ?_
      | refine LeO.bind ?_ (fun _ => ?_)
    · intro y0 y1 y2 y3 y4 y5
      unfold reed_Encode.l0
      repeat' first
      | (with_reducible exact ih0 _ _ _)
      | (with_reducible exact ih1 _ _ _ _ _ _)
      | (with_reducible exact ih2 _ _ _ _ _ _ _ _ _)
      | (with_reducible exact field_Times.mono _ _ _)
      | (with_reducible exact reed_Generator.mono _ _)
      | (with_reducible exact LeO.refl _)
      | (with_reducible exact LeO.none _)
      | (with_reducible refine LeO.ite ?_ ?_)
      | (with_reducible refine LeO.bind ?_ (fun _ => ?_))
      | exact ih0 _ _ _
      | exact ih1 _ _ _ _ _ _
      | exact ih2 _ _ _ _ _ _ _ _ _
      | exact field_Times.mono _ _ _
      | exact reed_Generator.mono _ _
      | exact LeO.none _
      | refine LeO.ite ?_ ?_
      | refine LeO.bind ?_ (fun _ => ?_)
    · intro y0 y1 y2 y3 y4 y5 y6 y7 y8
      unfold reed_Encode.l1
      repeat' first
      | (with_reducible exact ih0 _ _ _)
      | (with_reducible exact ih1 _ _ _ _ _ _)
      | (with_reducible exact ih2 _ _ _ _ _ _ _ _ _)
      | (with_reducible exact field_Times.mono _ _ _)
      | (with_reducible exact reed_Generator.mono _ _)
      | (with_reducible exact LeO.refl _)
      | (with_reducible exact LeO.none _)
      | (with_reducible refine LeO.ite ?_ ?_)
      | (with_reducible refine LeO.bind ?_ (fun _ => ?_))
      | exact ih0 _ _ _
      | exact ih1 _ _ _ _ _ _
      | exact ih2 _ _ _ _ _ _ _ _ _
      | exact field_Times.mono _ _ _
      | exact reed_Generator.mono _ _
      | exact LeO.none _
      | refine LeO.ite ?_ ?_
      | refine LeO.bind ?_ (fun _ => ?_)
theorem reed_Encode.mono : ∀ a0 a1 k, LeO (reed_Encode.f k a0 a1) (reed_Encode.f (k + 1) a0 a1) := by
  intro a0 a1 k
  obtain ⟨ih0, ih1, ih2⟩ := reed_Encode.mono_l k
  unfold reed_Encode.f
  repeat' first
      | (with_reducible exact ih0 _ _ _)
      | (with_reducible exact ih1 _ _ _ _ _ _)
      | (with_reducible exact ih2 _ _ _ _ _ _ _ _ _)
      | (with_reducible exact field_Times.mono _ _ _)
      | (with_reducible exact reed_Generator.mono _ _)
      | (with_reducible exact LeO.refl _)
      | (with_reducible exact LeO.none _)
      | (with_reducible refine LeO.ite ?_ ?_)
      | (with_reducible refine LeO.bind ?_ (fun _ => ?_))
      | exact ih0 _ _ _
      | exact ih1 _ _ _ _ _ _
      | exact ih2 _ _ _ _ _ _ _ _ _
      | exact field_Times.mono _ _ _
      | exact reed_Generator.mono _ _
      | exact LeO.none _
      | refine LeO.ite ?_ ?_
      | refine LeO.bind ?_ (fun _ => ?_)
def reed_Encode.T14 : Bool × List (List Nat × List Nat) := (true, [([], []), ([0], [0]), ([1], [1]), ([], []), ([], []), ([], []), ([5], [5]), ([], []), ([6, 7], [6, 7]), ([4, 8], [4, 8]), ([9], [9]), ([3, 10], [3, 10]), ([2, 11], [2, 11]), ([0, 0, 1, 2, 3, 4, 5, 6, 7, 8, 9, 10, 11, 12], [0]), ([13, 12, 11, 0, 1, 2, 3, 4, 5, 6, 7, 8, 9, 10, 11, 12], [12, 13])])
def reed_Encode.B14 : List Nat := [0, 1, 3, 0, 0, 0, 32, 0, 224, 496, 1008, 2040, 4095, 8191, 16383]
theorem reed_Encode.tab14 : rtab .any (opsOf Try.f19 14) = reed_Encode.T14 := by kernel_rfl
theorem reed_Encode.bits14 : waitsOk reed_Encode.T14.2 reed_Encode.B14 = true := by kernel_rfl

/-! ### reed_Syndromes: function 22 -/
mutual
def reed_Syndromes.l0 : Nat → ByteArray → List Int → Int → Int → Option (List Int × Int)
  | 0, _, _, _, _ => none
  | k + 1, x0, x6, x18, x19 => if x19 < x18 then ((field_Exp.f k x19).bind fun t165 => (reed_Syndromes.l1 k x0 x6 x19 t165 x18 x19 (x0.size : Int) 0)) else (some (x6, 0))
def reed_Syndromes.l1 : Nat → ByteArray → List Int → Int → Int → Int → Int → Int → Int → Option (List Int × Int)
  | 0, _, _, _, _, _, _, _, _ => none
  | k + 1, x0, x6, x7, x8, x18, x19, x25, x26 => if x26 < x25 then (if 0 ≤ x7 then (if x7 < (x6.length : Int) then ((field_Times.f k (rd x6 x7) x8).bind fun t167 => (if 0 ≤ x26 then (if x26 < (x0.size : Int) then (reed_Syndromes.l1 k x0 (x6.set (x7 : Int).toNat (Go.bits .xor .u8 t167 (bt x0 x26))) x7 x8 x18 x19 x25 (wrap64 (x26 + 1))) else (none)) else (none))) else (none)) else (none)) else (reed_Syndromes.l0 k x0 x6 x18 (wrap64 (x19 + 1)))
end
def reed_Syndromes.f (k : Nat) (a0 : ByteArray) (a1 : Int) : Option (List Int × Int) := (reed_Check.f (a0.size : Int) a1).bind fun t161 => (if t161 = 0 then (if 0 ≤ a1 then (if (a1 : Int).toNat ≤ 281474976710656 then ((some (List.replicate (a1 : Int).toNat 0 : List Int)).bind fun y162 => (reed_Syndromes.l0 k a0 y162 (y162.length : Int) 0)) else (none)) else (none)) else (some (([] : List Int), 1)))
theorem reed_Syndromes.mono_l : ∀ k, (∀ y0 y1 y2 y3, LeO (reed_Syndromes.l0 k y0 y1 y2 y3) (reed_Syndromes.l0 (k + 1) y0 y1 y2 y3)) ∧ (∀ y0 y1 y2 y3 y4 y5 y6 y7, LeO (reed_Syndromes.l1 k y0 y1 y2 y3 y4 y5 y6 y7) (reed_Syndromes.l1 (k + 1) y0 y1 y2 y3 y4 y5 y6 y7))
  | 0 => ⟨fun _ _ _ _ r h => by simp [reed_Syndromes.l0] at h, fun _ _ _ _ _ _ _ _ r h => by simp [reed_Syndromes.l1] at h⟩
  | k + 1 => by
    obtain ⟨ih0, ih1⟩ := reed_Syndromes.mono_l k
    refine ⟨?_, ?_⟩
    · intro y0 y1 y2 y3
      unfold reed_Syndromes.l0
      repeat' first
      | (with_reducible exact ih0 _ _ _ _)
      | (with_reducible exact ih1 _ _ _ _ _ _ _ _)
      | (with_reducible exact field_Exp.mono _ _)
      | (with_reducible exact field_Times.mono _ _ _)
      | (with_reducible exact LeO.refl _)
      | (with_reducible exact LeO.none _)
      | (with_reducible refine LeO.ite ?_ ?_)
      | (with_reducible refine LeO.bind ?_ (fun _ => ?_))
      | exact ih0 _ _ _ _
      | exact ih1 _ _ _ _ _ _ _ _
      | exact field_Exp.mono _ _
      | exact field_Times.mono _ _ _
      | exact LeO.none _
      | refine LeO.ite ?_ ?_
      | refine LeO.bind ?_ (fun _ => ?_)
    · intro y0 y1 y2 y3 y4 y5 y6 y7
      unfold reed_Syndromes.l1
      repeat' first
      | (with_reducible exact ih0 _ _ _ _)
      | (with_reducible exact ih1 _ _ _ _ _ _ _ _)
      | (with_reducible exact field_Exp.mono _ _)
      | (with_reducible exact field_Times.mono _ _ _)
      | (with_reducible exact LeO.refl _)
      | (with_reducible exact LeO.none _)
      | (with_reducible refine LeO.ite ?_ ?_)
      | (with_reducible refine LeO.bind ?_ (fun _ => ?_))
      | exact ih0 _ _ _ _
      | exact ih1 _ _ _ _ _ _ _ _
      | exact field_Exp.mono _ _
      | exact field_Times.mono _ _ _
      | exact LeO.none _
      | refine LeO.ite ?_ ?_
      | refine LeO.bind ?_ (fun _ => ?_)
theorem reed_Syndromes.mono : ∀ a0 a1 k, LeO (reed_Syndromes.f k a0 a1) (reed_Syndromes.f (k + 1) a0 a1) := by
  intro a0 a1 k
  obtain ⟨ih0, ih1⟩ := reed_Syndromes.mono_l k
  unfold reed_Syndromes.f
  repeat' first
      | (with_reducible exact ih0 _ _ _ _)
      | (with_reducible exact ih1 _ _ _ _ _ _ _ _)
      | (with_reducible exact field_Exp.mono _ _)
      | (with_reducible exact field_Times.mono _ _ _)
      | (with_reducible exact LeO.refl _)
      | (with_reducible exact LeO.none _)
      | (with_reducible refine LeO.ite ?_ ?_)
      | (with_reducible refine LeO.bind ?_ (fun _ => ?_))
      | exact ih0 _ _ _ _
      | exact ih1 _ _ _ _ _ _ _ _
      | exact field_Exp.mono _ _
      | exact field_Times.mono _ _ _
      | exact LeO.none _
      | refine LeO.ite ?_ ?_
      | refine LeO.bind ?_ (fun _ => ?_)
def reed_Syndromes.T11 : Bool × List (List Nat × List Nat) := (true, [([], []), ([], []), ([], []), ([], []), ([2, 3], [2, 3]), ([4], [4]), ([], []), ([5, 6], [5, 6]), ([], []), ([], []), ([8, 9], [8, 9]), ([7, 10], [7, 10]), ([0, 1, 0, 1, 2, 3, 4, 5, 6, 7, 8, 9, 10, 11], [0, 1]), ([12, 11, 7, 0, 1, 2, 3, 4, 5, 6, 7, 8, 9, 10, 11], [11, 12])])
def reed_Syndromes.B11 : List Nat := [0, 0, 0, 0, 12, 28, 0, 124, 0, 0, 768, 2044, 4095, 8191]
theorem reed_Syndromes.tab11 : rtab .any (opsOf Try.f22 11) = reed_Syndromes.T11 := by kernel_rfl
theorem reed_Syndromes.bits11 : waitsOk reed_Syndromes.T11.2 reed_Syndromes.B11 = true := by kernel_rfl

/-! ### reed_Whole: function 21 -/
def reed_Whole.l0 : Nat → List Int → Int → Int → Option (Bool × Int)
  | 0, _, _, _ => none
  | k + 1, x19, x20, x21 => if x21 < x20 then (if 0 ≤ x21 then (if x21 < (x19.length : Int) then (if (rd x19 x21) = 0 then (reed_Whole.l0 k x19 x20 (wrap64 (x21 + 1))) else (some (false, 0))) else (none)) else (none)) else (some (true, 0))
def reed_Whole.f (k : Nat) (a0 : ByteArray) (a1 : Int) : Option (Bool × Int) := (reed_Syndromes.f k a0 a1).bind fun bt169 => (if bt169.2 = 0 then (reed_Whole.l0 k bt169.1 (bt169.1.length : Int) 0) else (some (false, bt169.2)))
theorem reed_Whole.mono_l : ∀ k, (∀ y0 y1 y2, LeO (reed_Whole.l0 k y0 y1 y2) (reed_Whole.l0 (k + 1) y0 y1 y2))
  | 0 => fun _ _ _ r h => by simp [reed_Whole.l0] at h
  | k + 1 => by
    have ih0 := reed_Whole.mono_l k
    · intro y0 y1 y2
      unfold reed_Whole.l0
      repeat' first
      | (with_reducible exact ih0 _ _ _)
      | (with_reducible exact reed_Syndromes.mono _ _ _)
      | (with_reducible exact LeO.refl _)
      | (with_reducible exact LeO.none _)
      | (with_reducible refine LeO.ite ?_ ?_)
      | (with_reducible refine LeO.bind ?_ (fun _ => ?_))
      | exact ih0 _ _ _
      | exact reed_Syndromes.mono _ _ _
      | exact LeO.none _
      | refine LeO.ite ?_ ?_
      | refine LeO.bind ?_ (fun _ => ?_)
theorem reed_Whole.mono : ∀ a0 a1 k, LeO (reed_Whole.f k a0 a1) (reed_Whole.f (k + 1) a0 a1) := by
  intro a0 a1 k
  have ih0 := reed_Whole.mono_l k
  unfold reed_Whole.f
  repeat' first
      | (with_reducible exact ih0 _ _ _)
      | (with_reducible exact reed_Syndromes.mono _ _ _)
      | (with_reducible exact LeO.refl _)
      | (with_reducible exact LeO.none _)
      | (with_reducible refine LeO.ite ?_ ?_)
      | (with_reducible refine LeO.bind ?_ (fun _ => ?_))
      | exact ih0 _ _ _
      | exact reed_Syndromes.mono _ _ _
      | exact LeO.none _
      | refine LeO.ite ?_ ?_
      | refine LeO.bind ?_ (fun _ => ?_)

/-! ### reed_Apart: function 23 -/
def reed_Apart.l0 : Nat → ByteArray → ByteArray → Int → Int → Int → Option (Int × Int)
  | 0, _, _, _, _, _ => none
  | k + 1, x0, x1, x6, x14, x15 => if x15 < x14 then (if 0 ≤ x15 then (if x15 < (x0.size : Int) then (if x15 < (x1.size : Int) then (if (bt x0 x15) = (bt x1 x15) then (reed_Apart.l0 k x0 x1 x6 x14 (wrap64 (x15 + 1))) else (reed_Apart.l0 k x0 x1 (wrap64 (x6 + 1)) x14 (wrap64 (x15 + 1)))) else (none)) else (none)) else (none)) else (some (x6, 0))
def reed_Apart.f (k : Nat) (a0 : ByteArray) (a1 : ByteArray) : Option (Int × Int) := if (a0.size : Int) = (a1.size : Int) then (reed_Apart.l0 k a0 a1 0 (a0.size : Int) 0) else (some (0, 1))
theorem reed_Apart.mono_l : ∀ k, (∀ y0 y1 y2 y3 y4, LeO (reed_Apart.l0 k y0 y1 y2 y3 y4) (reed_Apart.l0 (k + 1) y0 y1 y2 y3 y4))
  | 0 => fun _ _ _ _ _ r h => by simp [reed_Apart.l0] at h
  | k + 1 => by
    have ih0 := reed_Apart.mono_l k
    · intro y0 y1 y2 y3 y4
      unfold reed_Apart.l0
      repeat' first
      | (with_reducible exact ih0 _ _ _ _ _)
      | (with_reducible exact LeO.refl _)
      | (with_reducible exact LeO.none _)
      | (with_reducible refine LeO.ite ?_ ?_)
      | (with_reducible refine LeO.bind ?_ (fun _ => ?_))
      | exact ih0 _ _ _ _ _
      | exact LeO.none _
      | refine LeO.ite ?_ ?_
      | refine LeO.bind ?_ (fun _ => ?_)
theorem reed_Apart.mono : ∀ a0 a1 k, LeO (reed_Apart.f k a0 a1) (reed_Apart.f (k + 1) a0 a1) := by
  intro a0 a1 k
  have ih0 := reed_Apart.mono_l k
  unfold reed_Apart.f
  repeat' first
      | (with_reducible exact ih0 _ _ _ _ _)
      | (with_reducible exact LeO.refl _)
      | (with_reducible exact LeO.none _)
      | (with_reducible refine LeO.ite ?_ ?_)
      | (with_reducible refine LeO.bind ?_ (fun _ => ?_))
      | exact ih0 _ _ _ _ _
      | exact LeO.none _
      | refine LeO.ite ?_ ?_
      | refine LeO.bind ?_ (fun _ => ?_)

/-! ### foghornref19_Check: function 66 -/
def foghornref19_Check.f (a0 : Int) (a1 : Int) : Option (Int) := if a1 < 2 then (some 1) else (if a1 > 64 then (some 1) else (if (Int.tmod a1 2) = 0 then (if a0 < (wrap64 (a1 + 1)) then (some 1) else (if a0 > 255 then (some 1) else (some 0))) else (some 1)))

/-! ### foghornref19_Times: function 68 -/
def foghornref19_Times.l0 : Nat → Int → Int → Int → Int → Option (Int)
  | 0, _, _, _, _ => none
  | k + 1, x1, x5, x6, x7 => if x7 < 8 then (if 0 ≤ x7 then (if (Go.bits .and .u8 (shr .u8 x1 x7) 1) = 1 then (if (wrap64 (2 * x5)) > 255 then (foghornref19_Times.l0 k x1 (Go.bits .xor .i64 (wrap64 (2 * x5)) 285) (Go.bits .xor .i64 x6 x5) (wrap64 (x7 + 1))) else (foghornref19_Times.l0 k x1 (wrap64 (2 * x5)) (Go.bits .xor .i64 x6 x5) (wrap64 (x7 + 1)))) else (if (wrap64 (2 * x5)) > 255 then (foghornref19_Times.l0 k x1 (Go.bits .xor .i64 (wrap64 (2 * x5)) 285) x6 (wrap64 (x7 + 1))) else (foghornref19_Times.l0 k x1 (wrap64 (2 * x5)) x6 (wrap64 (x7 + 1))))) else (none)) else (some ((x6) % 256))
def foghornref19_Times.f (k : Nat) (a0 : Int) (a1 : Int) : Option (Int) := foghornref19_Times.l0 k a1 (wrap64 (a0)) 0 0
theorem foghornref19_Times.mono_l : ∀ k, (∀ y0 y1 y2 y3, LeO (foghornref19_Times.l0 k y0 y1 y2 y3) (foghornref19_Times.l0 (k + 1) y0 y1 y2 y3))
  | 0 => fun _ _ _ _ r h => by simp [foghornref19_Times.l0] at h
  | k + 1 => by
    have ih0 := foghornref19_Times.mono_l k
    · intro y0 y1 y2 y3
      unfold foghornref19_Times.l0
      repeat' first
      | (with_reducible exact ih0 _ _ _ _)
      | (with_reducible exact LeO.refl _)
      | (with_reducible exact LeO.none _)
      | (with_reducible refine LeO.ite ?_ ?_)
      | (with_reducible refine LeO.bind ?_ (fun _ => ?_))
      | exact ih0 _ _ _ _
      | exact LeO.none _
      | refine LeO.ite ?_ ?_
      | refine LeO.bind ?_ (fun _ => ?_)
theorem foghornref19_Times.mono : ∀ a0 a1 k, LeO (foghornref19_Times.f k a0 a1) (foghornref19_Times.f (k + 1) a0 a1) := by
  intro a0 a1 k
  have ih0 := foghornref19_Times.mono_l k
  unfold foghornref19_Times.f
  repeat' first
      | (with_reducible exact ih0 _ _ _ _)
      | (with_reducible exact LeO.refl _)
      | (with_reducible exact LeO.none _)
      | (with_reducible refine LeO.ite ?_ ?_)
      | (with_reducible refine LeO.bind ?_ (fun _ => ?_))
      | exact ih0 _ _ _ _
      | exact LeO.none _
      | refine LeO.ite ?_ ?_
      | refine LeO.bind ?_ (fun _ => ?_)

/-! ### foghornref19_Power: function 70 -/
def foghornref19_Power.l0 : Nat → Int → Int → Int → Option (Int)
  | 0, _, _, _ => none
  | k + 1, x0, x3, x4 => if x4 < x0 then ((foghornref19_Times.f k x3 2).bind fun t242 => (foghornref19_Power.l0 k x0 t242 (wrap64 (x4 + 1)))) else (some x3)
def foghornref19_Power.f (k : Nat) (a0 : Int) : Option (Int) := foghornref19_Power.l0 k a0 1 0
theorem foghornref19_Power.mono_l : ∀ k, (∀ y0 y1 y2, LeO (foghornref19_Power.l0 k y0 y1 y2) (foghornref19_Power.l0 (k + 1) y0 y1 y2))
  | 0 => fun _ _ _ r h => by simp [foghornref19_Power.l0] at h
  | k + 1 => by
    have ih0 := foghornref19_Power.mono_l k
    · intro y0 y1 y2
      unfold foghornref19_Power.l0
      repeat' first
      | (with_reducible exact ih0 _ _ _)
      | (with_reducible exact foghornref19_Times.mono _ _ _)
      | (with_reducible exact LeO.refl _)
      | (with_reducible exact LeO.none _)
      | (with_reducible refine LeO.ite ?_ ?_)
      | (with_reducible refine LeO.bind ?_ (fun _ => ?_))
      | exact ih0 _ _ _
      | exact foghornref19_Times.mono _ _ _
      | exact LeO.none _
      | refine LeO.ite ?_ ?_
      | refine LeO.bind ?_ (fun _ => ?_)
theorem foghornref19_Power.mono : ∀ a0 k, LeO (foghornref19_Power.f k a0) (foghornref19_Power.f (k + 1) a0) := by
  intro a0 k
  have ih0 := foghornref19_Power.mono_l k
  unfold foghornref19_Power.f
  repeat' first
      | (with_reducible exact ih0 _ _ _)
      | (with_reducible exact foghornref19_Times.mono _ _ _)
      | (with_reducible exact LeO.refl _)
      | (with_reducible exact LeO.none _)
      | (with_reducible refine LeO.ite ?_ ?_)
      | (with_reducible refine LeO.bind ?_ (fun _ => ?_))
      | exact ih0 _ _ _
      | exact foghornref19_Times.mono _ _ _
      | exact LeO.none _
      | refine LeO.ite ?_ ?_
      | refine LeO.bind ?_ (fun _ => ?_)

/-! ### foghornref19_Generator: function 67 -/
mutual
def foghornref19_Generator.l0 : Nat → Int → List Int → Int → Option (List Int × Int)
  | 0, _, _, _ => none
  | k + 1, x0, x4, x5 => if x5 < x0 then ((foghornref19_Power.f k x5).bind fun t247 => (if 0 ≤ (wrap64 ((x4.length : Int) + 1)) then (if (wrap64 ((x4.length : Int) + 1) : Int).toNat ≤ 281474976710656 then (foghornref19_Generator.l1 k x0 x4 x5 t247 (List.replicate (wrap64 ((x4.length : Int) + 1) : Int).toNat 0) 0) else (none)) else (none))) else (some (x4, 0))
def foghornref19_Generator.l1 : Nat → Int → List Int → Int → Int → List Int → Int → Option (List Int × Int)
  | 0, _, _, _, _, _, _ => none
  | k + 1, x0, x4, x5, x6, x7, x8 => if x8 < (x4.length : Int) then (if 0 ≤ (wrap64 (x8 + 1)) then (if (wrap64 (x8 + 1)) < (x7.length : Int) then (if 0 ≤ x8 then ((some (x7.set ((wrap64 (x8 + 1)) : Int).toNat (Go.bits .xor .u8 (rd x7 (wrap64 (x8 + 1))) (rd x4 x8)) : List Int)).bind fun y253 => (if x8 < (x7.length : Int) then ((foghornref19_Times.f k (rd x4 x8) x6).bind fun t256 => (foghornref19_Generator.l1 k x0 x4 x5 x6 (y253.set (x8 : Int).toNat (Go.bits .xor .u8 (rd y253 x8) t256)) (wrap64 (x8 + 1)))) else (none))) else (none)) else (none)) else (none)) else (foghornref19_Generator.l0 k x0 x7 (wrap64 (x5 + 1)))
end
def foghornref19_Generator.f (k : Nat) (a0 : Int) : Option (List Int × Int) := (foghornref19_Check.f (wrap64 (a0 + 1)) a0).bind fun t243 => (if t243 = 0 then (foghornref19_Generator.l0 k a0 (([1] : List Int)) 0) else (some (([] : List Int), 1)))
theorem foghornref19_Generator.mono_l : ∀ k, (∀ y0 y1 y2, LeO (foghornref19_Generator.l0 k y0 y1 y2) (foghornref19_Generator.l0 (k + 1) y0 y1 y2)) ∧ (∀ y0 y1 y2 y3 y4 y5, LeO (foghornref19_Generator.l1 k y0 y1 y2 y3 y4 y5) (foghornref19_Generator.l1 (k + 1) y0 y1 y2 y3 y4 y5))
  | 0 => ⟨fun _ _ _ r h => by simp [foghornref19_Generator.l0] at h, fun _ _ _ _ _ _ r h => by simp [foghornref19_Generator.l1] at h⟩
  | k + 1 => by
    obtain ⟨ih0, ih1⟩ := foghornref19_Generator.mono_l k
    refine ⟨?_, ?_⟩
    · intro y0 y1 y2
      unfold foghornref19_Generator.l0
      repeat' first
      | (with_reducible exact ih0 _ _ _)
      | (with_reducible exact ih1 _ _ _ _ _ _)
      | (with_reducible exact foghornref19_Power.mono _ _)
      | (with_reducible exact foghornref19_Times.mono _ _ _)
      | (with_reducible exact LeO.refl _)
      | (with_reducible exact LeO.none _)
      | (with_reducible refine LeO.ite ?_ ?_)
      | (with_reducible refine LeO.bind ?_ (fun _ => ?_))
      | exact ih0 _ _ _
      | exact ih1 _ _ _ _ _ _
      | exact foghornref19_Power.mono _ _
      | exact foghornref19_Times.mono _ _ _
      | exact LeO.none _
      | refine LeO.ite ?_ ?_
      | refine LeO.bind ?_ (fun _ => ?_)
    · intro y0 y1 y2 y3 y4 y5
      unfold foghornref19_Generator.l1
      repeat' first
      | (with_reducible exact ih0 _ _ _)
      | (with_reducible exact ih1 _ _ _ _ _ _)
      | (with_reducible exact foghornref19_Power.mono _ _)
      | (with_reducible exact foghornref19_Times.mono _ _ _)
      | (with_reducible exact LeO.refl _)
      | (with_reducible exact LeO.none _)
      | (with_reducible refine LeO.ite ?_ ?_)
      | (with_reducible refine LeO.bind ?_ (fun _ => ?_))
      | exact ih0 _ _ _
      | exact ih1 _ _ _ _ _ _
      | exact foghornref19_Power.mono _ _
      | exact foghornref19_Times.mono _ _ _
      | exact LeO.none _
      | refine LeO.ite ?_ ?_
      | refine LeO.bind ?_ (fun _ => ?_)
theorem foghornref19_Generator.mono : ∀ a0 k, LeO (foghornref19_Generator.f k a0) (foghornref19_Generator.f (k + 1) a0) := by
  intro a0 k
  obtain ⟨ih0, ih1⟩ := foghornref19_Generator.mono_l k
  unfold foghornref19_Generator.f
  repeat' first
      | (with_reducible exact ih0 _ _ _)
      | (with_reducible exact ih1 _ _ _ _ _ _)
      | (with_reducible exact foghornref19_Power.mono _ _)
      | (with_reducible exact foghornref19_Times.mono _ _ _)
      | (with_reducible exact LeO.refl _)
      | (with_reducible exact LeO.none _)
      | (with_reducible refine LeO.ite ?_ ?_)
      | (with_reducible refine LeO.bind ?_ (fun _ => ?_))
      | exact ih0 _ _ _
      | exact ih1 _ _ _ _ _ _
      | exact foghornref19_Power.mono _ _
      | exact foghornref19_Times.mono _ _ _
      | exact LeO.none _
      | refine LeO.ite ?_ ?_
      | refine LeO.bind ?_ (fun _ => ?_)
def foghornref19_Generator.T12 : Bool × List (List Nat × List Nat) := (true, [([], []), ([], []), ([1], [1]), ([], []), ([], []), ([4], [4]), ([3, 5], [3, 5]), ([6], [6]), ([], []), ([], []), ([8, 9], [8, 9]), ([10], [10]), ([7, 11], [7, 11]), ([0, 2, 0, 1, 2, 3, 4, 5, 6, 7, 8, 9, 10, 11, 12], [0, 2]), ([13, 12, 0, 1, 2, 3, 4, 5, 6, 7, 8, 9, 10, 11, 12], [12, 13])])
def foghornref19_Generator.B12 : List Nat := [0, 0, 2, 0, 0, 16, 56, 120, 0, 0, 768, 1792, 4088, 8191, 16383]
theorem foghornref19_Generator.tab12 : rtab .any (opsOf Try.f67 12) = foghornref19_Generator.T12 := by kernel_rfl
theorem foghornref19_Generator.bits12 : waitsOk foghornref19_Generator.T12.2 foghornref19_Generator.B12 = true := by kernel_rfl
def foghornref19_Generator.T13 : Bool × List (List Nat × List Nat) := (true, [([], []), ([], []), ([], []), ([], []), ([2, 3], [2, 3]), ([4], [4]), ([], []), ([], []), ([6, 7], [6, 7]), ([8], [8]), ([], []), ([9, 10], [9, 10]), ([5, 11], [5, 11]), ([0, 1, 0, 1, 2, 3, 4, 5, 6, 7, 8, 9, 10, 11, 12], [0, 1]), ([13, 12, 11, 0, 1, 2, 3, 4, 5, 6, 7, 8, 9, 10, 11, 12], [12, 13])])
def foghornref19_Generator.B13 : List Nat := [0, 0, 0, 0, 12, 28, 0, 0, 192, 448, 0, 1984, 4092, 8191, 16383]
theorem foghornref19_Generator.tab13 : rtab .any (opsOf Try.f67 13) = foghornref19_Generator.T13 := by kernel_rfl
theorem foghornref19_Generator.bits13 : waitsOk foghornref19_Generator.T13.2 foghornref19_Generator.B13 = true := by kernel_rfl

/-! ### foghornref19_Encode: function 24 -/
mutual
def foghornref19_Encode.j0 : Nat → ByteArray → Int → Bool → Option (ByteArray × Int)
  | 0, _, _, _ => none
  | k + 1, x0, x1, x31 => if x31 = true then (some ((⟨#[]⟩ : ByteArray), 1)) else ((foghornref19_Generator.f k x1).bind fun bt259 => (if 0 ≤ (wrap64 ((x0.size : Int) + x1)) then (if (wrap64 ((x0.size : Int) + x1) : Int).toNat ≤ 281474976710656 then (foghornref19_Encode.l0 k x0 x1 bt259.1 (List.replicate (wrap64 ((x0.size : Int) + x1) : Int).toNat 0) 0) else (none)) else (none)))
def foghornref19_Encode.l0 : Nat → ByteArray → Int → List Int → List Int → Int → Option (ByteArray × Int)
  | 0, _, _, _, _, _ => none
  | k + 1, x0, x1, x6, x8, x9 => if x9 < (x0.size : Int) then (if 0 ≤ x9 then (if 0 ≤ (wrap64 ((wrap64 ((x8.length : Int) - 1)) - x9)) then (if (wrap64 ((wrap64 ((x8.length : Int) - 1)) - x9)) < (x8.length : Int) then (foghornref19_Encode.l0 k x0 x1 x6 (x8.set ((wrap64 ((wrap64 ((x8.length : Int) - 1)) - x9)) : Int).toNat (bt x0 x9)) (wrap64 (x9 + 1))) else (none)) else (none)) else (none)) else (foghornref19_Encode.l1 k x0 x1 x6 x8 (wrap64 ((x8.length : Int) - 1)))
def foghornref19_Encode.l1 : Nat → ByteArray → Int → List Int → List Int → Int → Option (ByteArray × Int)
  | 0, _, _, _, _, _ => none
  | k + 1, x0, x1, x6, x8, x10 => if x10 ≥ x1 then (if 0 ≤ x10 then (if x10 < (x8.length : Int) then (foghornref19_Encode.l2 k x0 x1 x6 x8 x10 (rd x8 x10) 0) else (none)) else (none)) else (if x0.size ≤ 9223372036854775807 then (foghornref19_Encode.l3 k x8 (bytesOf x0) (wrap64 (x1 - 1))) else (none))
def foghornref19_Encode.l2 : Nat → ByteArray → Int → List Int → List Int → Int → Int → Int → Option (ByteArray × Int)
  | 0, _, _, _, _, _, _, _ => none
  | k + 1, x0, x1, x6, x8, x10, x11, x12 => if x12 < (x6.length : Int) then (if 0 ≤ (wrap64 ((wrap64 (x10 - x1)) + x12)) then (if (wrap64 ((wrap64 (x10 - x1)) + x12)) < (x8.length : Int) then (if 0 ≤ x12 then ((foghornref19_Times.f k x11 (rd x6 x12)).bind fun t270 => (foghornref19_Encode.l2 k x0 x1 x6 (x8.set ((wrap64 ((wrap64 (x10 - x1)) + x12)) : Int).toNat (Go.bits .xor .u8 (rd x8 (wrap64 ((wrap64 (x10 - x1)) + x12))) t270)) x10 x11 (wrap64 (x12 + 1)))) else (none)) else (none)) else (none)) else (foghornref19_Encode.l1 k x0 x1 x6 x8 (wrap64 (x10 - 1)))
def foghornref19_Encode.l3 : Nat → List Int → List Int → Int → Option (ByteArray × Int)
  | 0, _, _, _ => none
  | k + 1, x8, x13, x14 => if x14 ≥ 0 then (if 0 ≤ x14 then (if x14 < (x8.length : Int) then (if x13.length < 140737488355328 then (foghornref19_Encode.l3 k x8 (x13 ++ [rd x8 x14]) (wrap64 (x14 - 1))) else (none)) else (none)) else (none)) else (some (strOfNums x13, 0))
end
def foghornref19_Encode.f (k : Nat) (a0 : ByteArray) (a1 : Int) : Option (ByteArray × Int) := if (a0.size : Int) < 1 then (foghornref19_Encode.j0 k a0 a1 true) else (if (a0.size : Int) > 255 then (foghornref19_Encode.j0 k a0 a1 true) else ((foghornref19_Check.f (wrap64 ((a0.size : Int) + a1)) a1).bind fun t258 => (foghornref19_Encode.j0 k a0 a1 (t258 != 0))))
theorem foghornref19_Encode.mono_l : ∀ k, (∀ y0 y1 y2, LeO (foghornref19_Encode.j0 k y0 y1 y2) (foghornref19_Encode.j0 (k + 1) y0 y1 y2)) ∧ (∀ y0 y1 y2 y3 y4, LeO (foghornref19_Encode.l0 k y0 y1 y2 y3 y4) (foghornref19_Encode.l0 (k + 1) y0 y1 y2 y3 y4)) ∧ (∀ y0 y1 y2 y3 y4, LeO (foghornref19_Encode.l1 k y0 y1 y2 y3 y4) (foghornref19_Encode.l1 (k + 1) y0 y1 y2 y3 y4)) ∧ (∀ y0 y1 y2 y3 y4 y5 y6, LeO (foghornref19_Encode.l2 k y0 y1 y2 y3 y4 y5 y6) (foghornref19_Encode.l2 (k + 1) y0 y1 y2 y3 y4 y5 y6)) ∧ (∀ y0 y1 y2, LeO (foghornref19_Encode.l3 k y0 y1 y2) (foghornref19_Encode.l3 (k + 1) y0 y1 y2))
  | 0 => ⟨fun _ _ _ r h => by simp [foghornref19_Encode.j0] at h, fun _ _ _ _ _ r h => by simp [foghornref19_Encode.l0] at h, fun _ _ _ _ _ r h => by simp [foghornref19_Encode.l1] at h, fun _ _ _ _ _ _ _ r h => by simp [foghornref19_Encode.l2] at h, fun _ _ _ r h => by simp [foghornref19_Encode.l3] at h⟩
  | k + 1 => by
    obtain ⟨ih0, ih1, ih2, ih3, ih4⟩ := foghornref19_Encode.mono_l k
    refine ⟨?_, ?_, ?_, ?_, ?_⟩
    · intro y0 y1 y2
      unfold foghornref19_Encode.j0
      repeat' first
      | (with_reducible exact ih0 _ _ _)
      | (with_reducible exact ih1 _ _ _ _ _)
      | (with_reducible exact ih2 _ _ _ _ _)
      | (with_reducible exact ih3 _ _ _ _ _ _ _)
      | (with_reducible exact ih4 _ _ _)
      | (with_reducible exact foghornref19_Generator.mono _ _)
      | (with_reducible exact foghornref19_Times.mono _ _ _)
      | (with_reducible exact LeO.refl _)
      | (with_reducible exact LeO.none _)
      | (with_reducible refine LeO.ite ?_ ?_)
      | (with_reducible refine LeO.bind ?_ (fun _ => ?_))
      | exact ih0 _ _ _
      | exact ih1 _ _ _ _ _
      | exact ih2 _ _ _ _ _
      | exact ih3 _ _ _ _ _ _ _
      | exact ih4 _ _ _
      | exact foghornref19_Generator.mono _ _
      | exact foghornref19_Times.mono _ _ _
      | exact LeO.none _
      | refine LeO.ite ?_ ?_
      | refine LeO.bind ?_ (fun _ => ?_)
    · intro y0 y1 y2 y3 y4
      unfold foghornref19_Encode.l0
      repeat' first
      | (with_reducible exact ih0 _ _ _)
      | (with_reducible exact ih1 _ _ _ _ _)
      | (with_reducible exact ih2 _ _ _ _ _)
      | (with_reducible exact ih3 _ _ _ _ _ _ _)
      | (with_reducible exact ih4 _ _ _)
      | (with_reducible exact foghornref19_Generator.mono _ _)
      | (with_reducible exact foghornref19_Times.mono _ _ _)
      | (with_reducible exact LeO.refl _)
      | (with_reducible exact LeO.none _)
      | (with_reducible refine LeO.ite ?_ ?_)
      | (with_reducible refine LeO.bind ?_ (fun _ => ?_))
      | exact ih0 _ _ _
      | exact ih1 _ _ _ _ _
      | exact ih2 _ _ _ _ _
      | exact ih3 _ _ _ _ _ _ _
      | exact ih4 _ _ _
      | exact foghornref19_Generator.mono _ _
      | exact foghornref19_Times.mono _ _ _
      | exact LeO.none _
      | refine LeO.ite ?_ ?_
      | refine LeO.bind ?_ (fun _ => ?_)
    · intro y0 y1 y2 y3 y4
      unfold foghornref19_Encode.l1
      repeat' first
      | (with_reducible exact ih0 _ _ _)
      | (with_reducible exact ih1 _ _ _ _ _)
      | (with_reducible exact ih2 _ _ _ _ _)
      | (with_reducible exact ih3 _ _ _ _ _ _ _)
      | (with_reducible exact ih4 _ _ _)
      | (with_reducible exact foghornref19_Generator.mono _ _)
      | (with_reducible exact foghornref19_Times.mono _ _ _)
      | (with_reducible exact LeO.refl _)
      | (with_reducible exact LeO.none _)
      | (with_reducible refine LeO.ite ?_ ?_)
      | (with_reducible refine LeO.bind ?_ (fun _ => ?_))
      | exact ih0 _ _ _
      | exact ih1 _ _ _ _ _
      | exact ih2 _ _ _ _ _
      | exact ih3 _ _ _ _ _ _ _
      | exact ih4 _ _ _
      | exact foghornref19_Generator.mono _ _
      | exact foghornref19_Times.mono _ _ _
      | exact LeO.none _
      | refine LeO.ite ?_ ?_
      | refine LeO.bind ?_ (fun _ => ?_)
    · intro y0 y1 y2 y3 y4 y5 y6
      unfold foghornref19_Encode.l2
      repeat' first
      | (with_reducible exact ih0 _ _ _)
      | (with_reducible exact ih1 _ _ _ _ _)
      | (with_reducible exact ih2 _ _ _ _ _)
      | (with_reducible exact ih3 _ _ _ _ _ _ _)
      | (with_reducible exact ih4 _ _ _)
      | (with_reducible exact foghornref19_Generator.mono _ _)
      | (with_reducible exact foghornref19_Times.mono _ _ _)
      | (with_reducible exact LeO.refl _)
      | (with_reducible exact LeO.none _)
      | (with_reducible refine LeO.ite ?_ ?_)
      | (with_reducible refine LeO.bind ?_ (fun _ => ?_))
      | exact ih0 _ _ _
      | exact ih1 _ _ _ _ _
      | exact ih2 _ _ _ _ _
      | exact ih3 _ _ _ _ _ _ _
      | exact ih4 _ _ _
      | exact foghornref19_Generator.mono _ _
      | exact foghornref19_Times.mono _ _ _
      | exact LeO.none _
      | refine LeO.ite ?_ ?_
      | refine LeO.bind ?_ (fun _ => ?_)
    · intro y0 y1 y2
      unfold foghornref19_Encode.l3
      repeat' first
      | (with_reducible exact ih0 _ _ _)
      | (with_reducible exact ih1 _ _ _ _ _)
      | (with_reducible exact ih2 _ _ _ _ _)
      | (with_reducible exact ih3 _ _ _ _ _ _ _)
      | (with_reducible exact ih4 _ _ _)
      | (with_reducible exact foghornref19_Generator.mono _ _)
      | (with_reducible exact foghornref19_Times.mono _ _ _)
      | (with_reducible exact LeO.refl _)
      | (with_reducible exact LeO.none _)
      | (with_reducible refine LeO.ite ?_ ?_)
      | (with_reducible refine LeO.bind ?_ (fun _ => ?_))
      | exact ih0 _ _ _
      | exact ih1 _ _ _ _ _
      | exact ih2 _ _ _ _ _
      | exact ih3 _ _ _ _ _ _ _
      | exact ih4 _ _ _
      | exact foghornref19_Generator.mono _ _
      | exact foghornref19_Times.mono _ _ _
      | exact LeO.none _
      | refine LeO.ite ?_ ?_
      | refine LeO.bind ?_ (fun _ => ?_)
theorem foghornref19_Encode.mono : ∀ a0 a1 k, LeO (foghornref19_Encode.f k a0 a1) (foghornref19_Encode.f (k + 1) a0 a1) := by
  intro a0 a1 k
  obtain ⟨ih0, ih1, ih2, ih3, ih4⟩ := foghornref19_Encode.mono_l k
  unfold foghornref19_Encode.f
  repeat' first
      | (with_reducible exact ih0 _ _ _)
      | (with_reducible exact ih1 _ _ _ _ _)
      | (with_reducible exact ih2 _ _ _ _ _)
      | (with_reducible exact ih3 _ _ _ _ _ _ _)
      | (with_reducible exact ih4 _ _ _)
      | (with_reducible exact foghornref19_Generator.mono _ _)
      | (with_reducible exact foghornref19_Times.mono _ _ _)
      | (with_reducible exact LeO.refl _)
      | (with_reducible exact LeO.none _)
      | (with_reducible refine LeO.ite ?_ ?_)
      | (with_reducible refine LeO.bind ?_ (fun _ => ?_))
      | exact ih0 _ _ _
      | exact ih1 _ _ _ _ _
      | exact ih2 _ _ _ _ _
      | exact ih3 _ _ _ _ _ _ _
      | exact ih4 _ _ _
      | exact foghornref19_Generator.mono _ _
      | exact foghornref19_Times.mono _ _ _
      | exact LeO.none _
      | refine LeO.ite ?_ ?_
      | refine LeO.bind ?_ (fun _ => ?_)
def foghornref19_Encode.T16 : Bool × List (List Nat × List Nat) := (true, [([], []), ([], []), ([], []), ([1, 2], [1, 2]), ([], []), ([3, 4], [3, 4]), ([], []), ([], []), ([], []), ([7, 8], [7, 8]), ([], []), ([9, 10], [9, 10]), ([6, 11], [6, 11]), ([12], [12]), ([], []), ([], []), ([], []), ([15, 16], [15, 16]), ([17], [17]), ([14, 18], [14, 18]), ([13, 19], [13, 19]), ([0, 5, 0, 1, 2, 3, 4, 5, 6, 7, 8, 9, 10, 11, 12, 13, 14, 15, 16, 17, 18, 19, 20], [0, 5]), ([21, 20, 19, 0, 1, 2, 3, 4, 5, 6, 7, 8, 9, 10, 11, 12, 13, 14, 15, 16, 17, 18, 19, 20], [20, 21])])
def foghornref19_Encode.B16 : List Nat := [0, 0, 0, 6, 0, 30, 0, 0, 0, 384, 0, 1920, 4032, 8128, 0, 0, 0, 98304, 229376, 507904, 1048512, 2097151, 4194303]
theorem foghornref19_Encode.tab16 : rtab .any (opsOf Try.f24 16) = foghornref19_Encode.T16 := by kernel_rfl
theorem foghornref19_Encode.bits16 : waitsOk foghornref19_Encode.T16.2 foghornref19_Encode.B16 = true := by kernel_rfl

/-! ### foghornref19_At: function 69 -/
def foghornref19_At.l0 : Nat → ByteArray → Int → Int → Int → Int → Option (Int)
  | 0, _, _, _, _, _ => none
  | k + 1, x0, x1, x5, x6, x7 => if x7 ≥ 0 then (if 0 ≤ x7 then (if x7 < (x0.size : Int) then ((foghornref19_Times.f k (bt x0 x7) x6).bind fun t279 => ((foghornref19_Times.f k x6 x1).bind fun t280 => (foghornref19_At.l0 k x0 x1 (Go.bits .xor .u8 x5 t279) t280 (wrap64 (x7 - 1))))) else (none)) else (none)) else (some x5)
def foghornref19_At.f (k : Nat) (a0 : ByteArray) (a1 : Int) : Option (Int) := foghornref19_At.l0 k a0 a1 0 1 (wrap64 ((a0.size : Int) - 1))
theorem foghornref19_At.mono_l : ∀ k, (∀ y0 y1 y2 y3 y4, LeO (foghornref19_At.l0 k y0 y1 y2 y3 y4) (foghornref19_At.l0 (k + 1) y0 y1 y2 y3 y4))
  | 0 => fun _ _ _ _ _ r h => by simp [foghornref19_At.l0] at h
  | k + 1 => by
    have ih0 := foghornref19_At.mono_l k
    · intro y0 y1 y2 y3 y4
      unfold foghornref19_At.l0
      repeat' first
      | (with_reducible exact ih0 _ _ _ _ _)
      | (with_reducible exact foghornref19_Times.mono _ _ _)
      | (with_reducible exact LeO.refl _)
      | (with_reducible exact LeO.none _)
      | (with_reducible refine LeO.ite ?_ ?_)
      | (with_reducible refine LeO.bind ?_ (fun _ => ?_))
      | exact ih0 _ _ _ _ _
      | exact foghornref19_Times.mono _ _ _
      | exact LeO.none _
      | refine LeO.ite ?_ ?_
      | refine LeO.bind ?_ (fun _ => ?_)
theorem foghornref19_At.mono : ∀ a0 a1 k, LeO (foghornref19_At.f k a0 a1) (foghornref19_At.f (k + 1) a0 a1) := by
  intro a0 a1 k
  have ih0 := foghornref19_At.mono_l k
  unfold foghornref19_At.f
  repeat' first
      | (with_reducible exact ih0 _ _ _ _ _)
      | (with_reducible exact foghornref19_Times.mono _ _ _)
      | (with_reducible exact LeO.refl _)
      | (with_reducible exact LeO.none _)
      | (with_reducible refine LeO.ite ?_ ?_)
      | (with_reducible refine LeO.bind ?_ (fun _ => ?_))
      | exact ih0 _ _ _ _ _
      | exact foghornref19_Times.mono _ _ _
      | exact LeO.none _
      | refine LeO.ite ?_ ?_
      | refine LeO.bind ?_ (fun _ => ?_)

/-! ### foghornref19_Syndromes: function 25 -/
def foghornref19_Syndromes.l0 : Nat → ByteArray → Int → List Int → Int → Option (List Int × Int)
  | 0, _, _, _, _ => none
  | k + 1, x0, x1, x6, x7 => if x7 < x1 then ((foghornref19_Power.f k x7).bind fun t282 => ((foghornref19_At.f k x0 t282).bind fun t283 => (if x6.length < 140737488355328 then (foghornref19_Syndromes.l0 k x0 x1 (x6 ++ [t283]) (wrap64 (x7 + 1))) else (none)))) else (some (x6, 0))
def foghornref19_Syndromes.f (k : Nat) (a0 : ByteArray) (a1 : Int) : Option (List Int × Int) := (foghornref19_Check.f (a0.size : Int) a1).bind fun t281 => (if t281 = 0 then (foghornref19_Syndromes.l0 k a0 a1 ([] : List Int) 0) else (some (([] : List Int), 1)))
theorem foghornref19_Syndromes.mono_l : ∀ k, (∀ y0 y1 y2 y3, LeO (foghornref19_Syndromes.l0 k y0 y1 y2 y3) (foghornref19_Syndromes.l0 (k + 1) y0 y1 y2 y3))
  | 0 => fun _ _ _ _ r h => by simp [foghornref19_Syndromes.l0] at h
  | k + 1 => by
    have ih0 := foghornref19_Syndromes.mono_l k
    · intro y0 y1 y2 y3
      unfold foghornref19_Syndromes.l0
      repeat' first
      | (with_reducible exact ih0 _ _ _ _)
      | (with_reducible exact foghornref19_At.mono _ _ _)
      | (with_reducible exact foghornref19_Power.mono _ _)
      | (with_reducible exact LeO.refl _)
      | (with_reducible exact LeO.none _)
      | (with_reducible refine LeO.ite ?_ ?_)
      | (with_reducible refine LeO.bind ?_ (fun _ => ?_))
      | exact ih0 _ _ _ _
      | exact foghornref19_At.mono _ _ _
      | exact foghornref19_Power.mono _ _
      | exact LeO.none _
      | refine LeO.ite ?_ ?_
      | refine LeO.bind ?_ (fun _ => ?_)
theorem foghornref19_Syndromes.mono : ∀ a0 a1 k, LeO (foghornref19_Syndromes.f k a0 a1) (foghornref19_Syndromes.f (k + 1) a0 a1) := by
  intro a0 a1 k
  have ih0 := foghornref19_Syndromes.mono_l k
  unfold foghornref19_Syndromes.f
  repeat' first
      | (with_reducible exact ih0 _ _ _ _)
      | (with_reducible exact foghornref19_At.mono _ _ _)
      | (with_reducible exact foghornref19_Power.mono _ _)
      | (with_reducible exact LeO.refl _)
      | (with_reducible exact LeO.none _)
      | (with_reducible refine LeO.ite ?_ ?_)
      | (with_reducible refine LeO.bind ?_ (fun _ => ?_))
      | exact ih0 _ _ _ _
      | exact foghornref19_At.mono _ _ _
      | exact foghornref19_Power.mono _ _
      | exact LeO.none _
      | refine LeO.ite ?_ ?_
      | refine LeO.bind ?_ (fun _ => ?_)

/-! ### foghornref19_Whole: function 26 -/
def foghornref19_Whole.l0 : Nat → List Int → Int → Option (Bool × Int)
  | 0, _, _ => none
  | k + 1, x6, x8 => if x8 < (x6.length : Int) then (if 0 ≤ x8 then (if (rd x6 x8) = 0 then (foghornref19_Whole.l0 k x6 (wrap64 (x8 + 1))) else (some (false, 0))) else (none)) else (some (true, 0))
def foghornref19_Whole.f (k : Nat) (a0 : ByteArray) (a1 : Int) : Option (Bool × Int) := (foghornref19_Syndromes.f k a0 a1).bind fun bt287 => (if bt287.2 = 0 then (foghornref19_Whole.l0 k bt287.1 0) else (some (false, bt287.2)))
theorem foghornref19_Whole.mono_l : ∀ k, (∀ y0 y1, LeO (foghornref19_Whole.l0 k y0 y1) (foghornref19_Whole.l0 (k + 1) y0 y1))
  | 0 => fun _ _ r h => by simp [foghornref19_Whole.l0] at h
  | k + 1 => by
    have ih0 := foghornref19_Whole.mono_l k
    · intro y0 y1
      unfold foghornref19_Whole.l0
      repeat' first
      | (with_reducible exact ih0 _ _)
      | (with_reducible exact foghornref19_Syndromes.mono _ _ _)
      | (with_reducible exact LeO.refl _)
      | (with_reducible exact LeO.none _)
      | (with_reducible refine LeO.ite ?_ ?_)
      | (with_reducible refine LeO.bind ?_ (fun _ => ?_))
      | exact ih0 _ _
      | exact foghornref19_Syndromes.mono _ _ _
      | exact LeO.none _
      | refine LeO.ite ?_ ?_
      | refine LeO.bind ?_ (fun _ => ?_)
theorem foghornref19_Whole.mono : ∀ a0 a1 k, LeO (foghornref19_Whole.f k a0 a1) (foghornref19_Whole.f (k + 1) a0 a1) := by
  intro a0 a1 k
  have ih0 := foghornref19_Whole.mono_l k
  unfold foghornref19_Whole.f
  repeat' first
      | (with_reducible exact ih0 _ _)
      | (with_reducible exact foghornref19_Syndromes.mono _ _ _)
      | (with_reducible exact LeO.refl _)
      | (with_reducible exact LeO.none _)
      | (with_reducible refine LeO.ite ?_ ?_)
      | (with_reducible refine LeO.bind ?_ (fun _ => ?_))
      | exact ih0 _ _
      | exact foghornref19_Syndromes.mono _ _ _
      | exact LeO.none _
      | refine LeO.ite ?_ ?_
      | refine LeO.bind ?_ (fun _ => ?_)

/-! ### reed_Data: function 27 -/
def reed_Data.f (k : Nat) (a0 : ByteArray) (a1 : Int) : Option (ByteArray × Int) := (reed_Whole.f k a0 a1).bind fun bt292 => (if bt292.2 = 0 then (if bt292.1 = true then (if 0 ≤ (wrap64 ((a0.size : Int) - a1)) then (if (wrap64 ((a0.size : Int) - a1)) ≤ (a0.size : Int) then (some (a0.extract 0 ((wrap64 ((a0.size : Int) - a1)) : Int).toNat, 0)) else (none)) else (none)) else (some ((⟨#[]⟩ : ByteArray), 6))) else (some ((⟨#[]⟩ : ByteArray), bt292.2)))
theorem reed_Data.mono : ∀ a0 a1 k, LeO (reed_Data.f k a0 a1) (reed_Data.f (k + 1) a0 a1) := by
  intro a0 a1 k
  unfold reed_Data.f
  repeat' first
      | (with_reducible exact reed_Whole.mono _ _ _)
      | (with_reducible exact LeO.refl _)
      | (with_reducible exact LeO.none _)
      | (with_reducible refine LeO.ite ?_ ?_)
      | (with_reducible refine LeO.bind ?_ (fun _ => ?_))
      | exact reed_Whole.mono _ _ _
      | exact LeO.none _
      | refine LeO.ite ?_ ?_
      | refine LeO.bind ?_ (fun _ => ?_)

/-! ### foghornref19_Data: function 28 -/
def foghornref19_Data.f (k : Nat) (a0 : ByteArray) (a1 : Int) : Option (ByteArray × Int) := (foghornref19_Whole.f k a0 a1).bind fun bt294 => (if bt294.2 = 0 then (if bt294.1 = true then (if 0 ≤ (wrap64 ((a0.size : Int) - a1)) then (if (wrap64 ((a0.size : Int) - a1)) ≤ (a0.size : Int) then (some (a0.extract 0 ((wrap64 ((a0.size : Int) - a1)) : Int).toNat, 0)) else (none)) else (none)) else (some ((⟨#[]⟩ : ByteArray), 6))) else (some ((⟨#[]⟩ : ByteArray), bt294.2)))
theorem foghornref19_Data.mono : ∀ a0 a1 k, LeO (foghornref19_Data.f k a0 a1) (foghornref19_Data.f (k + 1) a0 a1) := by
  intro a0 a1 k
  unfold foghornref19_Data.f
  repeat' first
      | (with_reducible exact foghornref19_Whole.mono _ _ _)
      | (with_reducible exact LeO.refl _)
      | (with_reducible exact LeO.none _)
      | (with_reducible refine LeO.ite ?_ ?_)
      | (with_reducible refine LeO.bind ?_ (fun _ => ?_))
      | exact foghornref19_Whole.mono _ _ _
      | exact LeO.none _
      | refine LeO.ite ?_ ?_
      | refine LeO.bind ?_ (fun _ => ?_)

/-! ### foghornlaw19_sameBytes: function 29 -/
def foghornlaw19_sameBytes.l0 : Nat → List Int → List Int → Int → Option (Bool)
  | 0, _, _, _ => none
  | k + 1, x0, x1, x5 => if x5 < (x0.length : Int) then (if 0 ≤ x5 then (if x5 < (x1.length : Int) then (if (rd x0 x5) = (rd x1 x5) then (foghornlaw19_sameBytes.l0 k x0 x1 (wrap64 (x5 + 1))) else (some false)) else (none)) else (none)) else (some true)
def foghornlaw19_sameBytes.f (k : Nat) (l0 : List Int) (l1 : List Int) : Option (Bool) := if (l0.length : Int) = (l1.length : Int) then (foghornlaw19_sameBytes.l0 k l0 l1 0) else (some false)
theorem foghornlaw19_sameBytes.mono_l : ∀ k, (∀ y0 y1 y2, LeO (foghornlaw19_sameBytes.l0 k y0 y1 y2) (foghornlaw19_sameBytes.l0 (k + 1) y0 y1 y2))
  | 0 => fun _ _ _ r h => by simp [foghornlaw19_sameBytes.l0] at h
  | k + 1 => by
    have ih0 := foghornlaw19_sameBytes.mono_l k
    · intro y0 y1 y2
      unfold foghornlaw19_sameBytes.l0
      repeat' first
      | (with_reducible exact ih0 _ _ _)
      | (with_reducible exact LeO.refl _)
      | (with_reducible exact LeO.none _)
      | (with_reducible refine LeO.ite ?_ ?_)
      | (with_reducible refine LeO.bind ?_ (fun _ => ?_))
      | exact ih0 _ _ _
      | exact LeO.none _
      | refine LeO.ite ?_ ?_
      | refine LeO.bind ?_ (fun _ => ?_)
theorem foghornlaw19_sameBytes.mono : ∀ a0 a1 k, LeO (foghornlaw19_sameBytes.f k a0 a1) (foghornlaw19_sameBytes.f (k + 1) a0 a1) := by
  intro a0 a1 k
  have ih0 := foghornlaw19_sameBytes.mono_l k
  unfold foghornlaw19_sameBytes.f
  repeat' first
      | (with_reducible exact ih0 _ _ _)
      | (with_reducible exact LeO.refl _)
      | (with_reducible exact LeO.none _)
      | (with_reducible refine LeO.ite ?_ ?_)
      | (with_reducible refine LeO.bind ?_ (fun _ => ?_))
      | exact ih0 _ _ _
      | exact LeO.none _
      | refine LeO.ite ?_ ?_
      | refine LeO.bind ?_ (fun _ => ?_)

/-! ### foghornref19_Apart: function 30 -/
def foghornref19_Apart.l0 : Nat → ByteArray → ByteArray → Int → Int → Option (Int × Int)
  | 0, _, _, _, _ => none
  | k + 1, x0, x1, x6, x7 => if x7 < (x0.size : Int) then (if 0 ≤ x7 then (if x7 < (x1.size : Int) then (if (bt x0 x7) = (bt x1 x7) then (foghornref19_Apart.l0 k x0 x1 x6 (wrap64 (x7 + 1))) else (foghornref19_Apart.l0 k x0 x1 (wrap64 (x6 + 1)) (wrap64 (x7 + 1)))) else (none)) else (none)) else (some (x6, 0))
def foghornref19_Apart.f (k : Nat) (a0 : ByteArray) (a1 : ByteArray) : Option (Int × Int) := if (a0.size : Int) = (a1.size : Int) then (foghornref19_Apart.l0 k a0 a1 0 0) else (some (0, 1))
theorem foghornref19_Apart.mono_l : ∀ k, (∀ y0 y1 y2 y3, LeO (foghornref19_Apart.l0 k y0 y1 y2 y3) (foghornref19_Apart.l0 (k + 1) y0 y1 y2 y3))
  | 0 => fun _ _ _ _ r h => by simp [foghornref19_Apart.l0] at h
  | k + 1 => by
    have ih0 := foghornref19_Apart.mono_l k
    · intro y0 y1 y2 y3
      unfold foghornref19_Apart.l0
      repeat' first
      | (with_reducible exact ih0 _ _ _ _)
      | (with_reducible exact LeO.refl _)
      | (with_reducible exact LeO.none _)
      | (with_reducible refine LeO.ite ?_ ?_)
      | (with_reducible refine LeO.bind ?_ (fun _ => ?_))
      | exact ih0 _ _ _ _
      | exact LeO.none _
      | refine LeO.ite ?_ ?_
      | refine LeO.bind ?_ (fun _ => ?_)
theorem foghornref19_Apart.mono : ∀ a0 a1 k, LeO (foghornref19_Apart.f k a0 a1) (foghornref19_Apart.f (k + 1) a0 a1) := by
  intro a0 a1 k
  have ih0 := foghornref19_Apart.mono_l k
  unfold foghornref19_Apart.f
  repeat' first
      | (with_reducible exact ih0 _ _ _ _)
      | (with_reducible exact LeO.refl _)
      | (with_reducible exact LeO.none _)
      | (with_reducible refine LeO.ite ?_ ?_)
      | (with_reducible refine LeO.bind ?_ (fun _ => ?_))
      | exact ih0 _ _ _ _
      | exact LeO.none _
      | refine LeO.ite ?_ ?_
      | refine LeO.bind ?_ (fun _ => ?_)

/-! ### field_long: function 77 -/
def field_long.f (l0 : List (List Int)) : Option (Bool) := some (l0.any fun l => decide ((l.length : Int) > 512))

/-! ### field_sum: function 78 -/
mutual
def field_sum.l0 : Nat → List Int → List Int → Int → Int → Option (List Int)
  | 0, _, _, _, _ => none
  | k + 1, x5, x17, x18, x19 => if x19 < x18 then (if 0 ≤ x19 then (if x19 < (x17.length : Int) then (if x19 < (x5.length : Int) then (field_sum.l0 k (x5.set (x19 : Int).toNat (Go.bits .xor .u8 (rd x5 x19) (rd x17 x19))) x17 x18 (wrap64 (x19 + 1))) else (none)) else (none)) else (none)) else ((field_poly.f k x5).bind fun t454 => (some t454))
def field_sum.l102 : Nat → List Int → List Int → Int → Int → Option (List Int)
  | 0, _, _, _, _ => none
  | k + 1, x5, x17, x18, x19 => if x19 < x18 then (if 0 ≤ x19 then (if x19 < (x17.length : Int) then (if x19 < (x5.length : Int) then (field_sum.l102 k (x5.set (x19 : Int).toNat (Go.bits .xor .u8 (rd x5 x19) (rd x17 x19))) x17 x18 (wrap64 (x19 + 1))) else (none)) else (none)) else (none)) else ((field_poly.f k x5).bind fun t463 => (some t463))
end
def field_sum.f (k : Nat) (l0 : List Int) (l1 : List Int) : Option (List Int) := if (l0.length : Int) < (l1.length : Int) then ((slices_Clone_uint8_uint8.f l1).bind fun t448 => (field_sum.l0 k t448 l0 (l0.length : Int) 0)) else ((slices_Clone_uint8_uint8.f l0).bind fun t457 => (field_sum.l102 k t457 l1 (l1.length : Int) 0))
theorem field_sum.mono_l : ∀ k, (∀ y0 y1 y2 y3, LeO (field_sum.l0 k y0 y1 y2 y3) (field_sum.l0 (k + 1) y0 y1 y2 y3)) ∧ (∀ y0 y1 y2 y3, LeO (field_sum.l102 k y0 y1 y2 y3) (field_sum.l102 (k + 1) y0 y1 y2 y3))
  | 0 => ⟨fun _ _ _ _ r h => by simp [field_sum.l0] at h, fun _ _ _ _ r h => by simp [field_sum.l102] at h⟩
  | k + 1 => by
    obtain ⟨ih0, ih1⟩ := field_sum.mono_l k
    refine ⟨?_, ?_⟩
    · intro y0 y1 y2 y3
      unfold field_sum.l0
      repeat' first
      | (with_reducible exact ih0 _ _ _ _)
      | (with_reducible exact ih1 _ _ _ _)
      | (with_reducible exact field_poly.mono _ _)
      | (with_reducible exact LeO.refl _)
      | (with_reducible exact LeO.none _)
      | (with_reducible refine LeO.ite ?_ ?_)
      | (with_reducible refine LeO.bind ?_ (fun _ => ?_))
      | exact ih0 _ _ _ _
      | exact ih1 _ _ _ _
      | exact field_poly.mono _ _
      | exact LeO.none _
      | refine LeO.ite ?_ ?_
      | refine LeO.bind ?_ (fun _ => ?_)
    · intro y0 y1 y2 y3
      unfold field_sum.l102
      repeat' first
      | (with_reducible exact ih0 _ _ _ _)
      | (with_reducible exact ih1 _ _ _ _)
      | (with_reducible exact field_poly.mono _ _)
      | (with_reducible exact LeO.refl _)
      | (with_reducible exact LeO.none _)
      | (with_reducible refine LeO.ite ?_ ?_)
      | (with_reducible refine LeO.bind ?_ (fun _ => ?_))
      | exact ih0 _ _ _ _
      | exact ih1 _ _ _ _
      | exact field_poly.mono _ _
      | exact LeO.none _
      | refine LeO.ite ?_ ?_
      | refine LeO.bind ?_ (fun _ => ?_)
theorem field_sum.mono : ∀ a0 a1 k, LeO (field_sum.f k a0 a1) (field_sum.f (k + 1) a0 a1) := by
  intro a0 a1 k
  obtain ⟨ih0, ih1⟩ := field_sum.mono_l k
  unfold field_sum.f
  repeat' first
      | (with_reducible exact ih0 _ _ _ _)
      | (with_reducible exact ih1 _ _ _ _)
      | (with_reducible exact field_poly.mono _ _)
      | (with_reducible exact LeO.refl _)
      | (with_reducible exact LeO.none _)
      | (with_reducible refine LeO.ite ?_ ?_)
      | (with_reducible refine LeO.bind ?_ (fun _ => ?_))
      | exact ih0 _ _ _ _
      | exact ih1 _ _ _ _
      | exact field_poly.mono _ _
      | exact LeO.none _
      | refine LeO.ite ?_ ?_
      | refine LeO.bind ?_ (fun _ => ?_)

/-! ### field_Sum: function 38 -/
def field_Sum.f (k : Nat) (l0 : List Int) (l1 : List Int) : Option (List Int × Int) := (field_long.f (([l0, l1] : List (List Int)))).bind fun t469 => (if t469 = true then (some (([] : List Int), 1)) else ((field_sum.f k l0 l1).bind fun t470 => (some (t470, 0))))
theorem field_Sum.mono : ∀ a0 a1 k, LeO (field_Sum.f k a0 a1) (field_Sum.f (k + 1) a0 a1) := by
  intro a0 a1 k
  unfold field_Sum.f
  repeat' first
      | (with_reducible exact field_sum.mono _ _ _)
      | (with_reducible exact LeO.refl _)
      | (with_reducible exact LeO.none _)
      | (with_reducible refine LeO.ite ?_ ?_)
      | (with_reducible refine LeO.bind ?_ (fun _ => ?_))
      | exact field_sum.mono _ _ _
      | exact LeO.none _
      | refine LeO.ite ?_ ?_
      | refine LeO.bind ?_ (fun _ => ?_)

/-! ### field_Product: function 39 -/
def field_Product.f (k : Nat) (l0 : List Int) (l1 : List Int) : Option (List Int × Int) := (field_long.f (([l0, l1] : List (List Int)))).bind fun t476 => (if t476 = true then (some (([] : List Int), 1)) else ((field_poly.f k l0).bind fun t477 => ((field_poly.f k l1).bind fun t480 => (if (mn (t477.length : Int) (t480.length : Int)) > 0 then (if (wrap64 ((t477.length : Int) + (t480.length : Int))) > 513 then (some (([] : List Int), 1)) else ((field_product.f k t477 t480).bind fun t483 => (some (t483, 0)))) else ((field_product.f k t477 t480).bind fun t486 => (some (t486, 0)))))))
theorem field_Product.mono : ∀ a0 a1 k, LeO (field_Product.f k a0 a1) (field_Product.f (k + 1) a0 a1) := by
  intro a0 a1 k
  unfold field_Product.f
  repeat' first
      | (with_reducible exact field_poly.mono _ _)
      | (with_reducible exact field_product.mono _ _ _)
      | (with_reducible exact LeO.refl _)
      | (with_reducible exact LeO.none _)
      | (with_reducible refine LeO.ite ?_ ?_)
      | (with_reducible refine LeO.bind ?_ (fun _ => ?_))
      | exact field_poly.mono _ _
      | exact field_product.mono _ _ _
      | exact LeO.none _
      | refine LeO.ite ?_ ?_
      | refine LeO.bind ?_ (fun _ => ?_)

/-! ### field_divide: function 81 -/
mutual
def field_divide.l0 : Nat → List Int → List Int → List Int → Int → Int → Option (List Int × List Int)
  | 0, _, _, _, _, _ => none
  | k + 1, x1, x4, x5, x6, x7 => if x7 ≥ 0 then (if 0 ≤ (wrap64 ((wrap64 (x7 + (x1.length : Int))) - 1)) then (if (wrap64 ((wrap64 (x7 + (x1.length : Int))) - 1)) < (x5.length : Int) then ((field_Times.f k (rd x5 (wrap64 ((wrap64 (x7 + (x1.length : Int))) - 1))) x6).bind fun t501 => (if 0 ≤ x7 then (if x7 < (x4.length : Int) then (field_divide.l1 k x1 (x4.set (x7 : Int).toNat t501) x5 x6 x7 t501 x1 (x1.length : Int) 0) else (none)) else (none))) else (none)) else (none)) else ((field_poly.f k x5).bind fun t497 => (some (x4, t497)))
def field_divide.l1 : Nat → List Int → List Int → List Int → Int → Int → Int → List Int → Int → Int → Option (List Int × List Int)
  | 0, _, _, _, _, _, _, _, _, _ => none
  | k + 1, x1, x4, x5, x6, x7, x8, x49, x50, x51 => if x51 < x50 then (if 0 ≤ x51 then (if x51 < (x49.length : Int) then (if 0 ≤ (wrap64 (x7 + x51)) then (if (wrap64 (x7 + x51)) < (x5.length : Int) then ((field_Times.f k x8 (rd x49 x51)).bind fun t505 => (field_divide.l1 k x1 x4 (x5.set ((wrap64 (x7 + x51)) : Int).toNat (Go.bits .xor .u8 (rd x5 (wrap64 (x7 + x51))) t505)) x6 x7 x8 x49 x50 (wrap64 (x51 + 1)))) else (none)) else (none)) else (none)) else (none)) else (field_divide.l0 k x1 x4 x5 x6 (wrap64 (x7 - 1)))
end
def field_divide.f (k : Nat) (l0 : List Int) (l1 : List Int) : Option (List Int × List Int) := (field_poly.f k l0).bind fun t489 => (if 0 ≤ (wrap64 ((l1.length : Int) - 1)) then (if (wrap64 ((l1.length : Int) - 1)) < (l1.length : Int) then ((field_raised.f k (rd l1 (wrap64 ((l1.length : Int) - 1))) 254).bind fun t493 => (if 0 ≤ (mx 0 (wrap64 ((wrap64 ((t489.length : Int) - (l1.length : Int))) + 1))) then (if (mx 0 (wrap64 ((wrap64 ((t489.length : Int) - (l1.length : Int))) + 1)) : Int).toNat ≤ 281474976710656 then ((some (List.replicate (mx 0 (wrap64 ((wrap64 ((t489.length : Int) - (l1.length : Int))) + 1)) : Int).toNat 0 : List Int)).bind fun y494 => (field_divide.l0 k l1 y494 t489 t493 (wrap64 ((y494.length : Int) - 1)))) else (none)) else (none))) else (none)) else (none))
theorem field_divide.mono_l : ∀ k, (∀ y0 y1 y2 y3 y4, LeO (field_divide.l0 k y0 y1 y2 y3 y4) (field_divide.l0 (k + 1) y0 y1 y2 y3 y4)) ∧ (∀ y0 y1 y2 y3 y4 y5 y6 y7 y8, LeO (field_divide.l1 k y0 y1 y2 y3 y4 y5 y6 y7 y8) (field_divide.l1 (k + 1) y0 y1 y2 y3 y4 y5 y6 y7 y8))
  | 0 => ⟨fun _ _ _ _ _ r h => by simp [field_divide.l0] at h, fun _ _ _ _ _ _ _ _ _ r h => by simp [field_divide.l1] at h⟩
  | k + 1 => by
    obtain ⟨ih0, ih1⟩ := field_divide.mono_l k
    refine ⟨?_, ?_⟩
    · intro y0 y1 y2 y3 y4
      unfold field_divide.l0
      repeat' first
      | (with_reducible exact ih0 _ _ _ _ _)
      | (with_reducible exact ih1 _ _ _ _ _ _ _ _ _)
      | (with_reducible exact field_Times.mono _ _ _)
      | (with_reducible exact field_poly.mono _ _)
      | (with_reducible exact field_raised.mono _ _ _)
      | (with_reducible exact LeO.refl _)
      | (with_reducible exact LeO.none _)
      | (with_reducible refine LeO.ite ?_ ?_)
      | (with_reducible refine LeO.bind ?_ (fun _ => ?_))
      | exact ih0 _ _ _ _ _
      | exact ih1 _ _ _ _ _ _ _ _ _
      | exact field_Times.mono _ _ _
      | exact field_poly.mono _ _
      | exact field_raised.mono _ _ _
      | exact LeO.none _
      | refine LeO.ite ?_ ?_
      | refine LeO.bind ?_ (fun _ => ?_)
    · intro y0 y1 y2 y3 y4 y5 y6 y7 y8
      unfold field_divide.l1
      repeat' first
      | (with_reducible exact ih0 _ _ _ _ _)
      | (with_reducible exact ih1 _ _ _ _ _ _ _ _ _)
      | (with_reducible exact field_Times.mono _ _ _)
      | (with_reducible exact field_poly.mono _ _)
      | (with_reducible exact field_raised.mono _ _ _)
      | (with_reducible exact LeO.refl _)
      | (with_reducible exact LeO.none _)
      | (with_reducible refine LeO.ite ?_ ?_)
      | (with_reducible refine LeO.bind ?_ (fun _ => ?_))
      | exact ih0 _ _ _ _ _
      | exact ih1 _ _ _ _ _ _ _ _ _
      | exact field_Times.mono _ _ _
      | exact field_poly.mono _ _
      | exact field_raised.mono _ _ _
      | exact LeO.none _
      | refine LeO.ite ?_ ?_
      | refine LeO.bind ?_ (fun _ => ?_)
theorem field_divide.mono : ∀ a0 a1 k, LeO (field_divide.f k a0 a1) (field_divide.f (k + 1) a0 a1) := by
  intro a0 a1 k
  obtain ⟨ih0, ih1⟩ := field_divide.mono_l k
  unfold field_divide.f
  repeat' first
      | (with_reducible exact ih0 _ _ _ _ _)
      | (with_reducible exact ih1 _ _ _ _ _ _ _ _ _)
      | (with_reducible exact field_Times.mono _ _ _)
      | (with_reducible exact field_poly.mono _ _)
      | (with_reducible exact field_raised.mono _ _ _)
      | (with_reducible exact LeO.refl _)
      | (with_reducible exact LeO.none _)
      | (with_reducible refine LeO.ite ?_ ?_)
      | (with_reducible refine LeO.bind ?_ (fun _ => ?_))
      | exact ih0 _ _ _ _ _
      | exact ih1 _ _ _ _ _ _ _ _ _
      | exact field_Times.mono _ _ _
      | exact field_poly.mono _ _
      | exact field_raised.mono _ _ _
      | exact LeO.none _
      | refine LeO.ite ?_ ?_
      | refine LeO.bind ?_ (fun _ => ?_)
def field_divide.T12 : Bool × List (List Nat × List Nat) := (true, [([], []), ([], []), ([], []), ([1, 2], [1, 2]), ([0, 3], [0, 3]), ([4], [4]), ([], []), ([], []), ([6, 7], [6, 7]), ([5, 8], [5, 8]), ([0, 3, 0, 1, 2, 3, 4, 5, 6, 7, 8, 9], [0, 3]), ([10, 9, 8, 0, 1, 2, 3, 4, 5, 6, 7, 8, 9], [9, 10])])
def field_divide.B12 : List Nat := [0, 0, 0, 6, 15, 31, 0, 0, 192, 511, 1023, 2047]
theorem field_divide.tab12 : rtab .any (opsOf Try.f81 12) = field_divide.T12 := by kernel_rfl
theorem field_divide.bits12 : waitsOk field_divide.T12.2 field_divide.B12 = true := by kernel_rfl

/-! ### field_at: function 82 -/
def field_at.step (a1 : Int) (s n : Int) : Option Int := (field_Times.f 9 s a1).map fun t => Go.bits .xor .u8 t n
def field_at.f (l0 : List Int) (a1 : Int) : Option (Int) := if 0 ≤ a1 ∧ a1 ≤ 255 then some (l0.foldr (fun n s => (field_at.step a1 s n).getD 0) 0) else none
theorem field_at.times_some (a b : Int) (h0 : 0 ≤ b) (h1 : b ≤ 255) : ∃ r, field_Times.f 9 a b = some r := by
  have key : ∀ (k : Nat) (a b p : Int), 0 ≤ b → b < 2 ^ k → ∃ r, field_Times.l0 (k + 1) a b p = some r := by
    intro k
    induction k with
    | zero => intro a b p h0 h1; refine ⟨p, ?_⟩; rw [field_Times.l0, if_neg (by omega)]
    | succ k ih =>
      intro a b p h0 h1
      by_cases hb : b > 0
      · rw [field_Times.l0, if_pos hb]
        exact ih _ _ _ (by omega) (by rw [Int.pow_succ] at h1; omega)
      · refine ⟨p, ?_⟩; rw [field_Times.l0, if_neg hb]
  exact key 8 a b 0 h0 (by omega)

/-! ### field_At: function 45 -/
def field_At.f (l0 : List Int) (a1 : Int) : Option (Int × Int) := (field_long.f (([l0] : List (List Int)))).bind fun t588 => (if t588 = true then (some (0, 1)) else ((field_at.f l0 a1).bind fun t589 => (some (t589, 0))))

/-! ### mend_marked: function 99 -/
def mend_marked.l0 : Nat → Int → List Bool → Bool → List Int → Int → Int → Option (List Bool × Bool)
  | 0, _, _, _, _, _, _ => none
  | k + 1, x1, x6, x7, x12, x13, x14 => if x14 < x13 then (if 0 ≤ x14 then (if x14 < (x12.length : Int) then (if (rd x12 x14) < 0 then (some (x6, false)) else (if (rd x12 x14) ≥ x1 then (some (x6, false)) else (if 0 ≤ (rd x12 x14) then (if (rd x12 x14) < (x6.length : Int) then (if rdOf false x6 (rd x12 x14) = true then (some (x6, false)) else (mend_marked.l0 k x1 (x6.set ((rd x12 x14) : Int).toNat true) x7 x12 x13 (wrap64 (x14 + 1)))) else (none)) else (none)))) else (none)) else (none)) else (some (x6, x7))
def mend_marked.f (k : Nat) (l0 : List Int) (a1 : Int) : Option (List Bool × Bool) := if 0 ≤ a1 then (if (a1 : Int).toNat ≤ 281474976710656 then (mend_marked.l0 k a1 (List.replicate (a1 : Int).toNat false) true l0 (l0.length : Int) 0) else (none)) else (none)
theorem mend_marked.mono_l : ∀ k, (∀ y0 y1 y2 y3 y4 y5, LeO (mend_marked.l0 k y0 y1 y2 y3 y4 y5) (mend_marked.l0 (k + 1) y0 y1 y2 y3 y4 y5))
  | 0 => fun _ _ _ _ _ _ r h => by simp [mend_marked.l0] at h
  | k + 1 => by
    have ih0 := mend_marked.mono_l k
    · intro y0 y1 y2 y3 y4 y5
      unfold mend_marked.l0
      repeat' first
      | (with_reducible exact ih0 _ _ _ _ _ _)
      | (with_reducible exact LeO.refl _)
      | (with_reducible exact LeO.none _)
      | (with_reducible refine LeO.ite ?_ ?_)
      | (with_reducible refine LeO.bind ?_ (fun _ => ?_))
      | exact ih0 _ _ _ _ _ _
      | exact LeO.none _
      | refine LeO.ite ?_ ?_
      | refine LeO.bind ?_ (fun _ => ?_)
theorem mend_marked.mono : ∀ a0 a1 k, LeO (mend_marked.f k a0 a1) (mend_marked.f (k + 1) a0 a1) := by
  intro a0 a1 k
  have ih0 := mend_marked.mono_l k
  unfold mend_marked.f
  repeat' first
      | (with_reducible exact ih0 _ _ _ _ _ _)
      | (with_reducible exact LeO.refl _)
      | (with_reducible exact LeO.none _)
      | (with_reducible refine LeO.ite ?_ ?_)
      | (with_reducible refine LeO.bind ?_ (fun _ => ?_))
      | exact ih0 _ _ _ _ _ _
      | exact LeO.none _
      | refine LeO.ite ?_ ?_
      | refine LeO.bind ?_ (fun _ => ?_)

/-! ### mend_check: function 86 -/
def mend_check.f (k : Nat) (a0 : ByteArray) (a1 : Int) (l2 : List Int) : Option (List Bool × Int) := (reed_Check.f (a0.size : Int) a1).bind fun t738 => (if t738 = 0 then ((mend_marked.f k l2 (a0.size : Int)).bind fun bt739 => (if bt739.2 = true then (some (bt739.1, 0)) else (some (([] : List Bool), 1)))) else (some (([] : List Bool), 1)))
theorem mend_check.mono : ∀ a0 a1 a2 k, LeO (mend_check.f k a0 a1 a2) (mend_check.f (k + 1) a0 a1 a2) := by
  intro a0 a1 a2 k
  unfold mend_check.f
  repeat' first
      | (with_reducible exact mend_marked.mono _ _ _)
      | (with_reducible exact LeO.refl _)
      | (with_reducible exact LeO.none _)
      | (with_reducible refine LeO.ite ?_ ?_)
      | (with_reducible refine LeO.bind ?_ (fun _ => ?_))
      | exact mend_marked.mono _ _ _
      | exact LeO.none _
      | refine LeO.ite ?_ ?_
      | refine LeO.bind ?_ (fun _ => ?_)

/-! ### mend_unlike: function 88 -/
def mend_unlike.l0 : Nat → ByteArray → ByteArray → List Bool → List Int → Int → Int → Option (List Int)
  | 0, _, _, _, _, _, _ => none
  | k + 1, x0, x1, x2, x7, x10, x11 => if x11 < x10 then (if 0 ≤ x11 then (if x11 < (x0.size : Int) then (if x11 < (x1.size : Int) then (if (bt x0 x11) = (bt x1 x11) then (mend_unlike.l0 k x0 x1 x2 x7 x10 (wrap64 (x11 + 1))) else (if x11 < (x2.length : Int) then (if rdOf false x2 x11 = true then (mend_unlike.l0 k x0 x1 x2 x7 x10 (wrap64 (x11 + 1))) else (if x7.length < 17592186044416 then (mend_unlike.l0 k x0 x1 x2 (x7 ++ [x11]) x10 (wrap64 (x11 + 1))) else (none))) else (none))) else (none)) else (none)) else (none)) else (some x7)
def mend_unlike.f (k : Nat) (a0 : ByteArray) (a1 : ByteArray) (l2 : List Bool) : Option (List Int) := mend_unlike.l0 k a0 a1 l2 ([] : List Int) (a0.size : Int) 0
theorem mend_unlike.mono_l : ∀ k, (∀ y0 y1 y2 y3 y4 y5, LeO (mend_unlike.l0 k y0 y1 y2 y3 y4 y5) (mend_unlike.l0 (k + 1) y0 y1 y2 y3 y4 y5))
  | 0 => fun _ _ _ _ _ _ r h => by simp [mend_unlike.l0] at h
  | k + 1 => by
    have ih0 := mend_unlike.mono_l k
    · intro y0 y1 y2 y3 y4 y5
      unfold mend_unlike.l0
      repeat' first
      | (with_reducible exact ih0 _ _ _ _ _ _)
      | (with_reducible exact LeO.refl _)
      | (with_reducible exact LeO.none _)
      | (with_reducible refine LeO.ite ?_ ?_)
      | (with_reducible refine LeO.bind ?_ (fun _ => ?_))
      | exact ih0 _ _ _ _ _ _
      | exact LeO.none _
      | refine LeO.ite ?_ ?_
      | refine LeO.bind ?_ (fun _ => ?_)
theorem mend_unlike.mono : ∀ a0 a1 a2 k, LeO (mend_unlike.f k a0 a1 a2) (mend_unlike.f (k + 1) a0 a1 a2) := by
  intro a0 a1 a2 k
  have ih0 := mend_unlike.mono_l k
  unfold mend_unlike.f
  repeat' first
      | (with_reducible exact ih0 _ _ _ _ _ _)
      | (with_reducible exact LeO.refl _)
      | (with_reducible exact LeO.none _)
      | (with_reducible refine LeO.ite ?_ ?_)
      | (with_reducible refine LeO.bind ?_ (fun _ => ?_))
      | exact ih0 _ _ _ _ _ _
      | exact LeO.none _
      | refine LeO.ite ?_ ?_
      | refine LeO.bind ?_ (fun _ => ?_)

/-! ### mend_within: function 90 -/
def mend_within.f (k : Nat) (a0 : ByteArray) (a1 : ByteArray) (a2 : Int) (l3 : List Bool) (a4 : Int) : Option (Bool) := (mend_unlike.f k a0 a1 l3).bind fun t747 => (some (decide ((wrap64 ((wrap64 (2 * (t747.length : Int))) + a4)) ≤ a2)))
theorem mend_within.mono : ∀ a0 a1 a2 a3 a4 k, LeO (mend_within.f k a0 a1 a2 a3 a4) (mend_within.f (k + 1) a0 a1 a2 a3 a4) := by
  intro a0 a1 a2 a3 a4 k
  unfold mend_within.f
  repeat' first
      | (with_reducible exact mend_unlike.mono _ _ _ _)
      | (with_reducible exact LeO.refl _)
      | (with_reducible exact LeO.none _)
      | (with_reducible refine LeO.ite ?_ ?_)
      | (with_reducible refine LeO.bind ?_ (fun _ => ?_))
      | exact mend_unlike.mono _ _ _ _
      | exact LeO.none _
      | refine LeO.ite ?_ ?_
      | refine LeO.bind ?_ (fun _ => ?_)

/-! ### mend_unit: function 106 -/
def mend_unit.f (k : Nat) (a0 : Int) (a1 : Int) : Option (Int) := (field_Exp.f k (wrap64 ((wrap64 (a1 - 1)) - a0))).bind fun t750 => (some t750)
theorem mend_unit.mono : ∀ a0 a1 k, LeO (mend_unit.f k a0 a1) (mend_unit.f (k + 1) a0 a1) := by
  intro a0 a1 k
  unfold mend_unit.f
  repeat' first
      | (with_reducible exact field_Exp.mono _ _)
      | (with_reducible exact LeO.refl _)
      | (with_reducible exact LeO.none _)
      | (with_reducible refine LeO.ite ?_ ?_)
      | (with_reducible refine LeO.bind ?_ (fun _ => ?_))
      | exact field_Exp.mono _ _
      | exact LeO.none _
      | refine LeO.ite ?_ ?_
      | refine LeO.bind ?_ (fun _ => ?_)

/-! ### mend_locator: function 100 -/
mutual
def mend_locator.l0 : Nat → Int → List Int → List Int → Int → Int → Option (List Int)
  | 0, _, _, _, _, _ => none
  | k + 1, x1, x5, x16, x17, x18 => if x18 < x17 then (if 0 ≤ x18 then (if x18 < (x16.length : Int) then ((mend_unit.f k (rd x16 x18) x1).bind fun t756 => (if x5.length < 140737488355328 then ((some (x5 ++ [0] : List Int)).bind fun y757 => (mend_locator.l1 k x1 y757 t756 (wrap64 ((y757.length : Int) - 1)) x16 x17 x18)) else (none))) else (none)) else (none)) else (some x5)
def mend_locator.l1 : Nat → Int → List Int → Int → Int → List Int → Int → Int → Option (List Int)
  | 0, _, _, _, _, _, _, _ => none
  | k + 1, x1, x5, x8, x9, x16, x17, x18 => if x9 > 0 then (if 0 ≤ x9 then (if x9 < (x5.length : Int) then (if 0 ≤ (wrap64 (x9 - 1)) then (if (wrap64 (x9 - 1)) < (x5.length : Int) then ((field_Times.f k (rd x5 (wrap64 (x9 - 1))) x8).bind fun t762 => (mend_locator.l1 k x1 (x5.set (x9 : Int).toNat (Go.bits .xor .u8 (rd x5 x9) t762)) x8 (wrap64 (x9 - 1)) x16 x17 x18)) else (none)) else (none)) else (none)) else (none)) else (mend_locator.l0 k x1 x5 x16 x17 (wrap64 (x18 + 1)))
end
def mend_locator.f (k : Nat) (l0 : List Int) (a1 : Int) : Option (List Int) := if 1 ≤ (wrap64 ((l0.length : Int) + 1)) then (if (wrap64 ((l0.length : Int) + 1) : Int).toNat ≤ 281474976710656 then ((some (List.replicate 1 0 : List Int)).bind fun y751 => (if 0 < (y751.length : Int) then (mend_locator.l0 k a1 (y751.set (0 : Int).toNat 1) l0 (l0.length : Int) 0) else (none))) else (none)) else (none)
theorem mend_locator.mono_l : ∀ k, (∀ y0 y1 y2 y3 y4, LeO (mend_locator.l0 k y0 y1 y2 y3 y4) (mend_locator.l0 (k + 1) y0 y1 y2 y3 y4)) ∧ (∀ y0 y1 y2 y3 y4 y5 y6, LeO (mend_locator.l1 k y0 y1 y2 y3 y4 y5 y6) (mend_locator.l1 (k + 1) y0 y1 y2 y3 y4 y5 y6))
  | 0 => ⟨fun _ _ _ _ _ r h => by simp [mend_locator.l0] at h, fun _ _ _ _ _ _ _ r h => by simp [mend_locator.l1] at h⟩
  | k + 1 => by
    obtain ⟨ih0, ih1⟩ := mend_locator.mono_l k
    refine ⟨?_, ?_⟩
    · intro y0 y1 y2 y3 y4
      unfold mend_locator.l0
      repeat' first
      | (with_reducible exact ih0 _ _ _ _ _)
      | (with_reducible exact ih1 _ _ _ _ _ _ _)
      | (with_reducible exact field_Times.mono _ _ _)
      | (with_reducible exact mend_unit.mono _ _ _)
      | (with_reducible exact LeO.refl _)
      | (with_reducible exact LeO.none _)
      | (with_reducible refine LeO.ite ?_ ?_)
      | (with_reducible refine LeO.bind ?_ (fun _ => ?_))
      | exact ih0 _ _ _ _ _
      | exact ih1 _ _ _ _ _ _ _
      | exact field_Times.mono _ _ _
      | exact mend_unit.mono _ _ _
      | exact LeO.none _
      | refine LeO.ite ?_ ?_
      | refine LeO.bind ?_ (fun _ => ?_)
    · intro y0 y1 y2 y3 y4 y5 y6
      unfold mend_locator.l1
      repeat' first
      | (with_reducible exact ih0 _ _ _ _ _)
      | (with_reducible exact ih1 _ _ _ _ _ _ _)
      | (with_reducible exact field_Times.mono _ _ _)
      | (with_reducible exact mend_unit.mono _ _ _)
      | (with_reducible exact LeO.refl _)
      | (with_reducible exact LeO.none _)
      | (with_reducible refine LeO.ite ?_ ?_)
      | (with_reducible refine LeO.bind ?_ (fun _ => ?_))
      | exact ih0 _ _ _ _ _
      | exact ih1 _ _ _ _ _ _ _
      | exact field_Times.mono _ _ _
      | exact mend_unit.mono _ _ _
      | exact LeO.none _
      | refine LeO.ite ?_ ?_
      | refine LeO.bind ?_ (fun _ => ?_)
theorem mend_locator.mono : ∀ a0 a1 k, LeO (mend_locator.f k a0 a1) (mend_locator.f (k + 1) a0 a1) := by
  intro a0 a1 k
  obtain ⟨ih0, ih1⟩ := mend_locator.mono_l k
  unfold mend_locator.f
  repeat' first
      | (with_reducible exact ih0 _ _ _ _ _)
      | (with_reducible exact ih1 _ _ _ _ _ _ _)
      | (with_reducible exact field_Times.mono _ _ _)
      | (with_reducible exact mend_unit.mono _ _ _)
      | (with_reducible exact LeO.refl _)
      | (with_reducible exact LeO.none _)
      | (with_reducible refine LeO.ite ?_ ?_)
      | (with_reducible refine LeO.bind ?_ (fun _ => ?_))
      | exact ih0 _ _ _ _ _
      | exact ih1 _ _ _ _ _ _ _
      | exact field_Times.mono _ _ _
      | exact mend_unit.mono _ _ _
      | exact LeO.none _
      | refine LeO.ite ?_ ?_
      | refine LeO.bind ?_ (fun _ => ?_)
def mend_locator.T11 : Bool × List (List Nat × List Nat) := (true, [([], []), ([], []), ([0, 1], [0, 1]), ([2], [2]), ([], []), ([], []), ([5], [5]), ([4, 6], [4, 6]), ([7], [7]), ([], []), ([8, 9], [8, 9]), ([3, 10], [3, 10]), ([0, 1, 0, 1, 2, 3, 4, 5, 6, 7, 8, 9, 10, 11], [0, 1]), ([12, 11, 10, 0, 1, 2, 3, 4, 5, 6, 7, 8, 9, 10, 11], [11, 12])])
def mend_locator.B11 : List Nat := [0, 0, 3, 7, 0, 0, 32, 112, 240, 0, 1008, 2047, 4095, 8191]
theorem mend_locator.tab11 : rtab .any (opsOf Try.f100 11) = mend_locator.T11 := by kernel_rfl
theorem mend_locator.bits11 : waitsOk mend_locator.T11.2 mend_locator.B11 = true := by kernel_rfl

/-! ### field_Over: function 107 -/
def field_Over.f (k : Nat) (a0 : Int) (a1 : Int) : Option (Int × Int) := if a1 = 0 then (some (0, 6)) else ((field_raised.f k a1 254).bind fun t764 => ((field_Times.f k a0 t764).bind fun t765 => (some (t765, 0))))
theorem field_Over.mono : ∀ a0 a1 k, LeO (field_Over.f k a0 a1) (field_Over.f (k + 1) a0 a1) := by
  intro a0 a1 k
  unfold field_Over.f
  repeat' first
      | (with_reducible exact field_Times.mono _ _ _)
      | (with_reducible exact field_raised.mono _ _ _)
      | (with_reducible exact LeO.refl _)
      | (with_reducible exact LeO.none _)
      | (with_reducible refine LeO.ite ?_ ?_)
      | (with_reducible refine LeO.bind ?_ (fun _ => ?_))
      | exact field_Times.mono _ _ _
      | exact field_raised.mono _ _ _
      | exact LeO.none _
      | refine LeO.ite ?_ ?_
      | refine LeO.bind ?_ (fun _ => ?_)

/-! ### mend_mend: function 87 -/
def mk_at (k : Nat) (p : List Int) (x : Int) : Nat → Int → Option Int
  | 0, s => some s
  | d + 1, s => (field_Times.f k s x).bind fun t => mk_at k p x d (Go.bits .xor .u8 t (rd p (d : Int)))
theorem mk_at.mono (k : Nat) (p : List Int) (x : Int) : ∀ d s, LeO (mk_at k p x d s) (mk_at (k + 1) p x d s)
  | 0, _ => LeO.refl _
  | d + 1, _ => LeO.bind (field_Times.mono _ _ k) fun _ => mk_at.mono k p x d _
def mk_disc (k : Nat) (now s : List Int) (n : Nat) : Nat → Nat → Int → Option Int
  | 0, _, d => some d
  | c + 1, j, d => (field_Times.f k (rd now (j : Int)) (rd s ((n - j : Nat) : Int))).bind fun t => mk_disc k now s n c (j + 1) (Go.bits .xor .u8 d t)
theorem mk_disc.mono (k : Nat) (now s : List Int) (n : Nat) : ∀ c j d, LeO (mk_disc k now s n c j d) (mk_disc (k + 1) now s n c j d)
  | 0, _, _ => LeO.refl _
  | c + 1, _, _ => LeO.bind (field_Times.mono _ _ k) fun _ => mk_disc.mono k now s n c _ _
def mk_next (k : Nat) (by_ : Int) (old : List Int) (gap : Nat) : Nat → Nat → List Int → Option (List Int)
  | 0, _, x => some x
  | c + 1, j, x => (field_Times.f k by_ (rd old (j : Int))).bind fun t => mk_next k by_ old gap c (j + 1) (x.set (j + gap) (Go.bits .xor .u8 (rd x ((j + gap : Nat) : Int)) t))
theorem mk_next.mono (k : Nat) (by_ : Int) (old : List Int) (gap : Nat) : ∀ c j x, LeO (mk_next k by_ old gap c j x) (mk_next (k + 1) by_ old gap c j x)
  | 0, _, _ => LeO.refl _
  | c + 1, _, _ => LeO.bind (field_Times.mono _ _ k) fun _ => mk_next.mono k by_ old gap c _ _
structure Kst where
  now : List Int
  old : List Int
  l : Nat
  last : Int
  gap : Nat
def mk_round (k : Nat) (s : List Int) (f n : Nat) (q : Kst) : Option Kst :=
  if q.l < 66 ∧ q.gap ≤ 1000 then (mk_disc k q.now s n (min q.l n + 1) 0 0).bind fun d =>
    if d = 0 then some { q with gap := q.gap + 1 } else (field_Over.f k d q.last).bind fun b => (mk_next k b.1 q.old q.gap (66 - q.gap) 0 q.now).bind fun x =>
      if 2 * q.l ≤ n + f then some ⟨x, q.now, n + 1 + f - q.l, d, 1⟩ else some { q with now := x, gap := q.gap + 1 }
  else none
theorem mk_round.mono (k : Nat) (s : List Int) (f n : Nat) (q : Kst) : LeO (mk_round k s f n q) (mk_round (k + 1) s f n q) :=
  LeO.ite (LeO.bind (mk_disc.mono k _ _ _ _ _ _) fun _ => LeO.ite (LeO.refl _) (LeO.bind (field_Over.mono _ _ k) fun _ => LeO.bind (mk_next.mono k _ _ _ _ _ _) fun _ => LeO.refl _)) (LeO.refl _)
def mk_loop (k : Nat) (s : List Int) (f : Nat) : Nat → Nat → Kst → Option Kst
  | 0, _, q => some q
  | c + 1, n, q => (mk_round k s f n q).bind fun r => mk_loop k s f c (n + 1) r
theorem mk_loop.mono (k : Nat) (s : List Int) (f : Nat) : ∀ c n q, LeO (mk_loop k s f c n q) (mk_loop (k + 1) s f c n q)
  | 0, _, _ => LeO.refl _
  | c + 1, _, _ => LeO.bind (mk_round.mono k s f _ _) fun _ => mk_loop.mono k s f c _ _
def mk_pad (lost : List Int) : List Int := lost ++ List.replicate (66 - lost.length) 0
def mk_key (k : Nat) (s lost : List Int) : Option (List Int × Nat) :=
  if 1 ≤ lost.length ∧ lost.length ≤ 66 ∧ s.length ≤ 1000 then (mk_loop k s (lost.length - 1) (s.length - (lost.length - 1)) (lost.length - 1) ⟨mk_pad lost, mk_pad lost, lost.length - 1, 1, 1⟩).bind fun q => some (q.now, q.l) else none
theorem mk_key.mono (k : Nat) (s lost : List Int) : LeO (mk_key k s lost) (mk_key (k + 1) s lost) :=
  LeO.ite (LeO.bind (mk_loop.mono k _ _ _ _ _) fun _ => LeO.refl _) (LeO.refl _)
def mk_over (k : Nat) (p s : List Int) (deg : Nat) : Nat → Nat → List Int → Option (List Int)
  | 0, _, x => some x
  | c + 1, j, x => (mk_disc k p s j (min deg j + 1) 0 (rd x (j : Int))).bind fun v => mk_over k p s deg c (j + 1) (x.set j v)
theorem mk_over.mono (k : Nat) (p s : List Int) (deg : Nat) : ∀ c j x, LeO (mk_over k p s deg c j x) (mk_over (k + 1) p s deg c j x)
  | 0, _, _ => LeO.refl _
  | c + 1, _, _ => LeO.bind (mk_disc.mono k _ _ _ _ _ _) fun _ => mk_over.mono k p s deg c _ _
def mk_slope (p : List Int) : Nat → Nat → List Int → List Int
  | 0, _, x => x
  | c + 1, j, x => mk_slope p c (j + 2) (x.set (j - 1) (rd p (j : Int)))
def mk_fix (k n r deg : Nat) (p ov sl : List Int) : Nat → Nat → List Int → Option (Option (List Int))
  | 0, _, b => some (some b)
  | c + 1, i, b => (mend_unit.f k (i : Int) (n : Int)).bind fun x => (field_Over.f k 1 x).bind fun y => (mk_at k p y.1 (deg + 1) 0).bind fun z =>
    if z = 0 then (mk_at k ov y.1 r 0).bind fun u => (field_Times.f k x u).bind fun t => (mk_at k sl y.1 (deg + 1) 0).bind fun v => (field_Over.f k t v).bind fun e =>
      if e.2 = 0 then mk_fix k n r deg p ov sl c (i + 1) (b.set i (Go.bits .xor .u8 (rd b (i : Int)) e.1)) else some none
    else mk_fix k n r deg p ov sl c (i + 1) b
theorem mk_fix.mono (k n r deg : Nat) (p ov sl : List Int) : ∀ c i b, LeO (mk_fix k n r deg p ov sl c i b) (mk_fix (k + 1) n r deg p ov sl c i b)
  | 0, _, _ => LeO.refl _
  | c + 1, _, _ => LeO.bind (mend_unit.mono _ _ k) fun _ => LeO.bind (field_Over.mono _ _ k) fun _ => LeO.bind (mk_at.mono k _ _ _ _) fun _ => LeO.ite (LeO.bind (mk_at.mono k _ _ _ _) fun _ => LeO.bind (field_Times.mono _ _ k) fun _ => LeO.bind (mk_at.mono k _ _ _ _) fun _ => LeO.bind (field_Over.mono _ _ k) fun _ => LeO.ite (mk_fix.mono k n r deg p ov sl c _ _) (LeO.refl _)) (mk_fix.mono k n r deg p ov sl c _ _)
def mk_end (k : Nat) (a0 : ByteArray) (a1 : Int) (l2 : List Bool) (m : Nat) : Option (List Int) → Option (ByteArray × Bool)
  | none => some (⟨#[]⟩, false)
  | some b => (reed_Whole.f k (strOfNums b) a1).bind fun wh => if wh.1 = true then (mend_within.f k a0 (strOfNums b) a1 l2 (m : Int)).bind fun wi => if wi = true then some (strOfNums b, true) else some (⟨#[]⟩, false) else some (⟨#[]⟩, false)
theorem mk_end.mono (k : Nat) (a0 : ByteArray) (a1 : Int) (l2 : List Bool) (m : Nat) : ∀ ob, LeO (mk_end k a0 a1 l2 m ob) (mk_end (k + 1) a0 a1 l2 m ob)
  | none => LeO.refl _
  | some b => LeO.bind (reed_Whole.mono _ _ k) fun _ => LeO.ite (LeO.bind (mend_within.mono _ _ _ _ _ k) fun _ => LeO.refl _) (LeO.refl _)
def mk_zeros : List Int := List.replicate 66 0
def mend_mend.f (k : Nat) (a0 : ByteArray) (a1 : Int) (l2 : List Bool) (l3 : List Int) : Option (ByteArray × Bool) :=
  (reed_Syndromes.f k a0 a1).bind fun s => (mend_locator.f k l3 (a0.size : Int)).bind fun lo => (mk_key k s.1 lo).bind fun q =>
    if (q.2 : Int) > a1 then some (⟨#[]⟩, false) else if 1 ≤ a1 ∧ a1 ≤ 64 ∧ a1 = (s.1.length : Int) ∧ a0.size ≤ 1000000 then
      (mk_over k q.1 s.1 q.2 s.1.length 0 mk_zeros).bind fun ov => (mk_fix k a0.size s.1.length q.2 q.1 ov (mk_slope q.1 ((q.2 + 1) / 2) 1 mk_zeros) a0.size 0 (bytesOf a0)).bind fun ob => mk_end k a0 a1 l2 l3.length ob
    else none
theorem mend_mend.mono : ∀ a0 a1 a2 a3 k, LeO (mend_mend.f k a0 a1 a2 a3) (mend_mend.f (k + 1) a0 a1 a2 a3) := fun a0 a1 a2 a3 k =>
  LeO.bind (reed_Syndromes.mono _ _ k) fun _ => LeO.bind (mend_locator.mono _ _ k) fun _ => LeO.bind (mk_key.mono k _ _) fun _ => LeO.ite (LeO.refl _) (LeO.ite (LeO.bind (mk_over.mono k _ _ _ _ _ _) fun _ => LeO.bind (mk_fix.mono k _ _ _ _ _ _ _ _ _) fun _ => mk_end.mono k _ _ _ _ _) (LeO.refl _))

/-! ### mend_rising: function 89 -/
def mend_rising.l0 : Nat → List Int → List Bool → Int → Int → Option (List Int)
  | 0, _, _, _, _ => none
  | k + 1, x3, x6, x7, x8 => if x8 < x7 then (if 0 ≤ x8 then (if x8 < (x6.length : Int) then (if rdOf false x6 x8 = true then (if x3.length < 17592186044416 then (mend_rising.l0 k (x3 ++ [x8]) x6 x7 (wrap64 (x8 + 1))) else (none)) else (mend_rising.l0 k x3 x6 x7 (wrap64 (x8 + 1)))) else (none)) else (none)) else (some x3)
def mend_rising.f (k : Nat) (l0 : List Bool) : Option (List Int) := mend_rising.l0 k ([] : List Int) l0 (l0.length : Int) 0
theorem mend_rising.mono_l : ∀ k, (∀ y0 y1 y2 y3, LeO (mend_rising.l0 k y0 y1 y2 y3) (mend_rising.l0 (k + 1) y0 y1 y2 y3))
  | 0 => fun _ _ _ _ r h => by simp [mend_rising.l0] at h
  | k + 1 => by
    have ih0 := mend_rising.mono_l k
    · intro y0 y1 y2 y3
      unfold mend_rising.l0
      repeat' first
      | (with_reducible exact ih0 _ _ _ _)
      | (with_reducible exact LeO.refl _)
      | (with_reducible exact LeO.none _)
      | (with_reducible refine LeO.ite ?_ ?_)
      | (with_reducible refine LeO.bind ?_ (fun _ => ?_))
      | exact ih0 _ _ _ _
      | exact LeO.none _
      | refine LeO.ite ?_ ?_
      | refine LeO.bind ?_ (fun _ => ?_)
theorem mend_rising.mono : ∀ a0 k, LeO (mend_rising.f k a0) (mend_rising.f (k + 1) a0) := by
  intro a0 k
  have ih0 := mend_rising.mono_l k
  unfold mend_rising.f
  repeat' first
      | (with_reducible exact ih0 _ _ _ _)
      | (with_reducible exact LeO.refl _)
      | (with_reducible exact LeO.none _)
      | (with_reducible refine LeO.ite ?_ ?_)
      | (with_reducible refine LeO.bind ?_ (fun _ => ?_))
      | exact ih0 _ _ _ _
      | exact LeO.none _
      | refine LeO.ite ?_ ?_
      | refine LeO.bind ?_ (fun _ => ?_)

/-! ### mend_Mend: function 51 -/
def mend_Mend.f (k : Nat) (a0 : ByteArray) (a1 : Int) (l2 : List Int) : Option (ByteArray × List Int × List Int × Int) := (mend_check.f k a0 a1 l2).bind fun bt771 => (if bt771.2 = 0 then (if (l2.length : Int) > a1 then (some ((⟨#[]⟩ : ByteArray), ([] : List Int), ([] : List Int), 9)) else ((mend_mend.f k a0 a1 bt771.1 l2).bind fun bt775 => (if bt775.2 = true then ((mend_unlike.f k a0 bt775.1 bt771.1).bind fun t777 => ((mend_rising.f k bt771.1).bind fun t780 => (some (bt775.1, t777, t780, 0)))) else (some ((⟨#[]⟩ : ByteArray), ([] : List Int), ([] : List Int), 9))))) else (some ((⟨#[]⟩ : ByteArray), ([] : List Int), ([] : List Int), bt771.2)))
theorem mend_Mend.mono : ∀ a0 a1 a2 k, LeO (mend_Mend.f k a0 a1 a2) (mend_Mend.f (k + 1) a0 a1 a2) := by
  intro a0 a1 a2 k
  unfold mend_Mend.f
  repeat' first
      | (with_reducible exact mend_check.mono _ _ _ _)
      | (with_reducible exact mend_mend.mono _ _ _ _ _)
      | (with_reducible exact mend_rising.mono _ _)
      | (with_reducible exact mend_unlike.mono _ _ _ _)
      | (with_reducible exact LeO.refl _)
      | (with_reducible exact LeO.none _)
      | (with_reducible refine LeO.ite ?_ ?_)
      | (with_reducible refine LeO.bind ?_ (fun _ => ?_))
      | exact mend_check.mono _ _ _ _
      | exact mend_mend.mono _ _ _ _ _
      | exact mend_rising.mono _ _
      | exact mend_unlike.mono _ _ _ _
      | exact LeO.none _
      | refine LeO.ite ?_ ?_
      | refine LeO.bind ?_ (fun _ => ?_)

/-! ### foghornlaw20_awake: function 49 -/
def foghornlaw20_awake.f (k : Nat)  : Option (Bool) := (mend_Mend.f k (⟨#[1, 7, 2]⟩ : ByteArray) 2 ([] : List Int)).bind fun bt783 => ((mend_Mend.f k (⟨#[7, 7, 2]⟩ : ByteArray) 2 (([0, 1] : List Int))).bind fun bt795 => (if bt783.2.2.2 = 0 then (if bt795.2.2.2 = 0 then (if bt783.1.toList = ([1, 3, 2] : List UInt8) then (if bt795.1.toList = bt783.1.toList then (if (bt783.2.1.length : Int) = 1 then (if (bt795.2.1.length : Int) = 0 then (some ((bt795.2.2.1.length : Int) == 2)) else (some false)) else (some false)) else (some false)) else (some false)) else (some false)) else (some false)))
theorem foghornlaw20_awake.mono : ∀ k, LeO (foghornlaw20_awake.f k ) (foghornlaw20_awake.f (k + 1) ) := by
  intro  k
  unfold foghornlaw20_awake.f
  repeat' first
      | (with_reducible exact mend_Mend.mono _ _ _ _)
      | (with_reducible exact LeO.refl _)
      | (with_reducible exact LeO.none _)
      | (with_reducible refine LeO.ite ?_ ?_)
      | (with_reducible refine LeO.bind ?_ (fun _ => ?_))
      | exact mend_Mend.mono _ _ _ _
      | exact LeO.none _
      | refine LeO.ite ?_ ?_
      | refine LeO.bind ?_ (fun _ => ?_)

/-! ### foghornlaw20_sent: function 50 -/
def foghornlaw20_sent.f (k : Nat) (a0 : ByteArray) (a1 : Int) : Option (ByteArray × Int) := if (a0.size : Int) > (wrap64 (255 - (wrap64 (2 + (wrap64 (2 * (Int.tmod (wrap64 ((Int.tmod a1 32) + 32)) 32))))))) then (if 0 ≤ (wrap64 (255 - (wrap64 (2 + (wrap64 (2 * (Int.tmod (wrap64 ((Int.tmod a1 32) + 32)) 32))))))) then (if (wrap64 (255 - (wrap64 (2 + (wrap64 (2 * (Int.tmod (wrap64 ((Int.tmod a1 32) + 32)) 32))))))) ≤ (a0.size : Int) then (if (a0.extract 0 ((wrap64 (255 - (wrap64 (2 + (wrap64 (2 * (Int.tmod (wrap64 ((Int.tmod a1 32) + 32)) 32))))))) : Int).toNat).toList = ([] : List UInt8) then ((foghornref19_Encode.f k (⟨#[97]⟩ : ByteArray) (wrap64 (2 + (wrap64 (2 * (Int.tmod (wrap64 ((Int.tmod a1 32) + 32)) 32)))))).bind fun bt804 => (some (bt804.1, wrap64 (2 + (wrap64 (2 * (Int.tmod (wrap64 ((Int.tmod a1 32) + 32)) 32))))))) else ((foghornref19_Encode.f k (a0.extract 0 ((wrap64 (255 - (wrap64 (2 + (wrap64 (2 * (Int.tmod (wrap64 ((Int.tmod a1 32) + 32)) 32))))))) : Int).toNat) (wrap64 (2 + (wrap64 (2 * (Int.tmod (wrap64 ((Int.tmod a1 32) + 32)) 32)))))).bind fun bt806 => (some (bt806.1, wrap64 (2 + (wrap64 (2 * (Int.tmod (wrap64 ((Int.tmod a1 32) + 32)) 32)))))))) else (none)) else (none)) else (if a0.toList = ([] : List UInt8) then ((foghornref19_Encode.f k (⟨#[97]⟩ : ByteArray) (wrap64 (2 + (wrap64 (2 * (Int.tmod (wrap64 ((Int.tmod a1 32) + 32)) 32)))))).bind fun bt808 => (some (bt808.1, wrap64 (2 + (wrap64 (2 * (Int.tmod (wrap64 ((Int.tmod a1 32) + 32)) 32))))))) else ((foghornref19_Encode.f k a0 (wrap64 (2 + (wrap64 (2 * (Int.tmod (wrap64 ((Int.tmod a1 32) + 32)) 32)))))).bind fun bt810 => (some (bt810.1, wrap64 (2 + (wrap64 (2 * (Int.tmod (wrap64 ((Int.tmod a1 32) + 32)) 32))))))))
theorem foghornlaw20_sent.mono : ∀ a0 a1 k, LeO (foghornlaw20_sent.f k a0 a1) (foghornlaw20_sent.f (k + 1) a0 a1) := by
  intro a0 a1 k
  unfold foghornlaw20_sent.f
  repeat' first
      | (with_reducible exact foghornref19_Encode.mono _ _ _)
      | (with_reducible exact LeO.refl _)
      | (with_reducible exact LeO.none _)
      | (with_reducible refine LeO.ite ?_ ?_)
      | (with_reducible refine LeO.bind ?_ (fun _ => ?_))
      | exact foghornref19_Encode.mono _ _ _
      | exact LeO.none _
      | refine LeO.ite ?_ ?_
      | refine LeO.bind ?_ (fun _ => ?_)

/-! ### foghornref20_Numbers: function 52 -/
def foghornref20_Numbers.l0 : Nat → List Int → List Int → Int → Option (Bool)
  | 0, _, _, _ => none
  | k + 1, x0, x1, x5 => if x5 < (x0.length : Int) then (if 0 ≤ x5 then (if x5 < (x1.length : Int) then (if (rd x0 x5) = (rd x1 x5) then (foghornref20_Numbers.l0 k x0 x1 (wrap64 (x5 + 1))) else (some false)) else (none)) else (none)) else (some true)
def foghornref20_Numbers.f (k : Nat) (l0 : List Int) (l1 : List Int) : Option (Bool) := if (l0.length : Int) = (l1.length : Int) then (foghornref20_Numbers.l0 k l0 l1 0) else (some false)
theorem foghornref20_Numbers.mono_l : ∀ k, (∀ y0 y1 y2, LeO (foghornref20_Numbers.l0 k y0 y1 y2) (foghornref20_Numbers.l0 (k + 1) y0 y1 y2))
  | 0 => fun _ _ _ r h => by simp [foghornref20_Numbers.l0] at h
  | k + 1 => by
    have ih0 := foghornref20_Numbers.mono_l k
    · intro y0 y1 y2
      unfold foghornref20_Numbers.l0
      repeat' first
      | (with_reducible exact ih0 _ _ _)
      | (with_reducible exact LeO.refl _)
      | (with_reducible exact LeO.none _)
      | (with_reducible refine LeO.ite ?_ ?_)
      | (with_reducible refine LeO.bind ?_ (fun _ => ?_))
      | exact ih0 _ _ _
      | exact LeO.none _
      | refine LeO.ite ?_ ?_
      | refine LeO.bind ?_ (fun _ => ?_)
theorem foghornref20_Numbers.mono : ∀ a0 a1 k, LeO (foghornref20_Numbers.f k a0 a1) (foghornref20_Numbers.f (k + 1) a0 a1) := by
  intro a0 a1 k
  have ih0 := foghornref20_Numbers.mono_l k
  unfold foghornref20_Numbers.f
  repeat' first
      | (with_reducible exact ih0 _ _ _)
      | (with_reducible exact LeO.refl _)
      | (with_reducible exact LeO.none _)
      | (with_reducible refine LeO.ite ?_ ?_)
      | (with_reducible refine LeO.bind ?_ (fun _ => ?_))
      | exact ih0 _ _ _
      | exact LeO.none _
      | refine LeO.ite ?_ ?_
      | refine LeO.bind ?_ (fun _ => ?_)

/-! ### mend_All: function 54 -/
def al_step (i : Nat) (out : List S64) (ref : List Int) (m : ByteArray × List Int × List Int × Int) : List S64 × List Int := (out ++ [⟨m.1, m.2.1, m.2.2.1⟩], if m.2.2.2 = 9 then ref ++ [(i : Int)] else ref)
def al_run (k : Nat) (r : Int) : List ByteArray → List (List Int) → Nat → List S64 → List Int → Option (List S64 × List Int × Int)
  | [], _, _, out, ref => some (out, ref, 0)
  | _ :: _, [], _, _, _ => none
  | s :: ss, l :: ll, i, out, ref => (mend_Mend.f k s r l).bind fun m => if m.2.2.2 = 1 then some ([], [], 1) else al_run k r ss ll (i + 1) (al_step i out ref m).1 (al_step i out ref m).2
def mend_All.f (k : Nat) (l0 : List ByteArray) (a1 : Int) (l2 : List (List Int)) : Option (List S64 × List Int × Int) :=
  (reed_Check.f (wrap64 (a1 + 1)) a1).bind fun t => if t = 0 ∧ l0.length = l2.length ∧ l0.length ≤ 32768 then al_run k a1 l0 l2 0 [] [] else some ([], [], 1)
theorem al_run_mono (k : Nat) (r : Int) : ∀ (ss : List ByteArray) (ll : List (List Int)) (i : Nat) (out : List S64) (ref : List Int), LeO (al_run k r ss ll i out ref) (al_run (k + 1) r ss ll i out ref)
  | [], _, _, _, _ => LeO.refl _
  | _ :: _, [], _, _, _ => LeO.refl _
  | s :: ss, l :: ll, i, out, ref => by
    unfold al_run
    exact LeO.bind (mend_Mend.mono s r l k) (fun m => LeO.ite (LeO.refl _) (al_run_mono k r ss ll (i + 1) _ _))
theorem mend_All.mono (l0 : List ByteArray) (a1 : Int) (l2 : List (List Int)) (k : Nat) : LeO (mend_All.f k l0 a1 l2) (mend_All.f (k + 1) l0 a1 l2) := by
  unfold mend_All.f
  exact LeO.bind (LeO.refl _) (fun t => LeO.ite (al_run_mono k a1 l0 l2 0 [] []) (LeO.refl _))

/-! ### mend_Locator: function 60 -/
def mend_Locator.j0 : Nat → List Int → Int → Bool → Option (List Int × Int)
  | 0, _, _, _ => none
  | k + 1, x0, x1, x13 => if x13 = true then (some (([] : List Int), 1)) else ((mend_marked.f k x0 x1).bind fun bt1109 => (if bt1109.2 = true then ((mend_locator.f k x0 x1).bind fun t1113 => (some (t1113, 0))) else (some (([] : List Int), 1))))
def mend_Locator.f (k : Nat) (l0 : List Int) (a1 : Int) : Option (List Int × Int) := if a1 < 1 then (mend_Locator.j0 k l0 a1 true) else (mend_Locator.j0 k l0 a1 (decide (a1 > 255)))
theorem mend_Locator.mono_l : ∀ k, (∀ y0 y1 y2, LeO (mend_Locator.j0 k y0 y1 y2) (mend_Locator.j0 (k + 1) y0 y1 y2))
  | 0 => fun _ _ _ r h => by simp [mend_Locator.j0] at h
  | k + 1 => by
    have ih0 := mend_Locator.mono_l k
    · intro y0 y1 y2
      unfold mend_Locator.j0
      repeat' first
      | (with_reducible exact ih0 _ _ _)
      | (with_reducible exact mend_locator.mono _ _ _)
      | (with_reducible exact mend_marked.mono _ _ _)
      | (with_reducible exact LeO.refl _)
      | (with_reducible exact LeO.none _)
      | (with_reducible refine LeO.ite ?_ ?_)
      | (with_reducible refine LeO.bind ?_ (fun _ => ?_))
      | exact ih0 _ _ _
      | exact mend_locator.mono _ _ _
      | exact mend_marked.mono _ _ _
      | exact LeO.none _
      | refine LeO.ite ?_ ?_
      | refine LeO.bind ?_ (fun _ => ?_)
theorem mend_Locator.mono : ∀ a0 a1 k, LeO (mend_Locator.f k a0 a1) (mend_Locator.f (k + 1) a0 a1) := by
  intro a0 a1 k
  have ih0 := mend_Locator.mono_l k
  unfold mend_Locator.f
  repeat' first
      | (with_reducible exact ih0 _ _ _)
      | (with_reducible exact mend_locator.mono _ _ _)
      | (with_reducible exact mend_marked.mono _ _ _)
      | (with_reducible exact LeO.refl _)
      | (with_reducible exact LeO.none _)
      | (with_reducible refine LeO.ite ?_ ?_)
      | (with_reducible refine LeO.bind ?_ (fun _ => ?_))
      | exact ih0 _ _ _
      | exact mend_locator.mono _ _ _
      | exact mend_marked.mono _ _ _
      | exact LeO.none _
      | refine LeO.ite ?_ ?_
      | refine LeO.bind ?_ (fun _ => ?_)

/-! ### mend_Message: function 63 -/
def mm_size (r : Int) : List ByteArray → Int → Int
  | [], z => z
  | s :: ss, z => mm_size r ss (wrap64 (z + wrap64 ((s.size : Int) - r)))
def mm_text (r : Int) : List S64 → List UInt8 → Option (List UInt8)
  | [], bs => some bs
  | m :: ms, bs => if 0 ≤ wrap64 ((m.f0.size : Int) - r) ∧ wrap64 ((m.f0.size : Int) - r) ≤ (m.f0.size : Int) ∧ bs.length + (m.f0.extract 0 (wrap64 ((m.f0.size : Int) - r)).toNat).size ≤ 140737488355328 then mm_text r ms (bs ++ (m.f0.extract 0 (wrap64 ((m.f0.size : Int) - r)).toNat).data.toList) else none
def mm_end (r : Int) (l0 : List ByteArray) (q : List S64 × List Int × Int) : Option (ByteArray × Int) := if q.2.2 = 0 then (if mm_size r l0 0 > 32768 then some ((⟨#[]⟩ : ByteArray), 1) else if 0 < q.2.1.length then some ((⟨#[]⟩ : ByteArray), 9) else if q.1.length ≤ 1000000 then (mm_text r q.1 []).map (fun bs => ((⟨bs.toArray⟩ : ByteArray), (0 : Int))) else none) else some ((⟨#[]⟩ : ByteArray), q.2.2)
def mend_Message.f (k : Nat) (l0 : List ByteArray) (a1 : Int) (l2 : List (List Int)) : Option (ByteArray × Int) := if l0.length ≤ 140737488355328 then (mend_All.f k l0 a1 l2).bind (mm_end a1 l0) else none
theorem mend_Message.mono (l0 : List ByteArray) (a1 : Int) (l2 : List (List Int)) (k : Nat) : LeO (mend_Message.f k l0 a1 l2) (mend_Message.f (k + 1) l0 a1 l2) := by
  unfold mend_Message.f
  exact LeO.ite (LeO.bind (mend_All.mono l0 a1 l2 k) (fun _ => LeO.refl _)) (LeO.refl _)

/-! ### foghornlaw20_MendNames: function 16 -/
def foghornlaw20_MendNames.l0 : Nat → Int → Int → Int → Int → Int → ByteArray → Int → Int → Int → List ByteArray → ByteArray → List Int → List Int → Option (Bool)
  | 0, _, _, _, _, _, _, _, _, _, _, _, _, _ => none
  | k + 1, x2, x4, x6, x8, x10, x11, x12, x14, x16, x17, x1179000, x1179001, x1179002 => if (x17.length : Int) < 130 then (if 255 ≤ 281474976710656 then (if x17.length < 8796093022208 then (foghornlaw20_MendNames.l0 k x2 x4 x6 x8 x10 x11 x12 x14 x16 (x17 ++ [strOfNums (List.replicate 255 0)]) x1179000 x1179001 x1179002) else (none)) else (none)) else (if 129 ≤ (x17.length : Int) then (if 129 ≤ 11728124029610 then ((mend_Message.f k (x17.take 129) 2 (List.replicate 129 [])).bind fun bt1242 => (if 130 ≤ 11728124029610 then ((mend_Message.f k x17 2 (List.replicate 130 [])).bind fun bt1247 => (if (bt1242.1.size : Int) = 32637 then (if bt1242.2 = 0 then (if bt1247.2 = 1 then (if x1179000.toList = ([1, 3, 2] : List UInt8) then (if (x1179001.length : Int) = 1 then (if 0 < (x1179001.length : Int) then (if (rd x1179001 0) = 1 then (if x2 = 0 then (if x4 = 9 then (if x6 = 9 then (if x8 = 1 then (if x10 = 1 then (if x11.toList = ([] : List UInt8) then (if x12 = 0 then (if x14 = 1 then (if x16 = 1 then (some true) else (some false)) else (some false)) else (some false)) else (some false)) else (some false)) else (some false)) else (some false)) else (some false)) else (some false)) else (some false)) else (none)) else (some false)) else (some false)) else (some false)) else (some false)) else (some false))) else (none))) else (none)) else (none))
def foghornlaw20_MendNames.f (k : Nat)  : Option (Bool) := (mend_Mend.f k (⟨#[1, 7, 2]⟩ : ByteArray) 2 ([] : List Int)).bind fun bt1170 => ((mend_Mend.f k (⟨#[1, 7, 7]⟩ : ByteArray) 2 ([] : List Int)).bind fun bt1179 => ((mend_Mend.f k (⟨#[1, 3, 2]⟩ : ByteArray) 2 (([0, 1, 2] : List Int))).bind fun bt1191 => ((mend_Mend.f k (⟨#[1, 3, 2]⟩ : ByteArray) 2 (([1, 1] : List Int))).bind fun bt1203 => ((mend_Mend.f k (⟨#[1, 3, 2]⟩ : ByteArray) 3 ([] : List Int)).bind fun bt1212 => ((mend_Message.f k ([] : List ByteArray) 2 ([] : List (List Int))).bind fun bt1221 => ((mend_Message.f k ([] : List ByteArray) 0 ([] : List (List Int))).bind fun bt1223 => ((mend_Locator.f k ([] : List Int) 256).bind fun bt1225 => (foghornlaw20_MendNames.l0 k bt1170.2.2.2 bt1179.2.2.2 bt1191.2.2.2 bt1203.2.2.2 bt1212.2.2.2 bt1221.1 bt1221.2 bt1223.2 bt1225.2 ([] : List ByteArray) bt1170.1 bt1170.2.1 bt1170.2.2.1))))))))
theorem foghornlaw20_MendNames.mono_l : ∀ k, (∀ y0 y1 y2 y3 y4 y5 y6 y7 y8 y9 y10 y11 y12, LeO (foghornlaw20_MendNames.l0 k y0 y1 y2 y3 y4 y5 y6 y7 y8 y9 y10 y11 y12) (foghornlaw20_MendNames.l0 (k + 1) y0 y1 y2 y3 y4 y5 y6 y7 y8 y9 y10 y11 y12))
  | 0 => fun _ _ _ _ _ _ _ _ _ _ _ _ _ r h => by unfold foghornlaw20_MendNames.l0 at h; cases h
  | k + 1 => by
    have ih0 := foghornlaw20_MendNames.mono_l k
    · intro y0 y1 y2 y3 y4 y5 y6 y7 y8 y9 y10 y11 y12
      unfold foghornlaw20_MendNames.l0
      repeat' first
      | (with_reducible exact ih0 _ _ _ _ _ _ _ _ _ _ _ _ _)
      | (with_reducible exact mend_Locator.mono _ _ _)
      | (with_reducible exact mend_Mend.mono _ _ _ _)
      | (with_reducible exact mend_Message.mono _ _ _ _)
      | (with_reducible exact LeO.refl _)
      | (with_reducible exact LeO.none _)
      | (with_reducible refine LeO.ite ?_ ?_)
      | (with_reducible refine LeO.bind ?_ (fun _ => ?_))
      | exact ih0 _ _ _ _ _ _ _ _ _ _ _ _ _
      | exact mend_Locator.mono _ _ _
      | exact mend_Mend.mono _ _ _ _
      | exact mend_Message.mono _ _ _ _
      | exact LeO.none _
      | refine LeO.ite ?_ ?_
      | refine LeO.bind ?_ (fun _ => ?_)
theorem foghornlaw20_MendNames.mono : ∀ k, LeO (foghornlaw20_MendNames.f k ) (foghornlaw20_MendNames.f (k + 1) ) := by
  intro  k
  have ih0 := foghornlaw20_MendNames.mono_l k
  unfold foghornlaw20_MendNames.f
  repeat' first
      | (with_reducible exact ih0 _ _ _ _ _ _ _ _ _ _ _ _ _)
      | (with_reducible exact mend_Locator.mono _ _ _)
      | (with_reducible exact mend_Mend.mono _ _ _ _)
      | (with_reducible exact mend_Message.mono _ _ _ _)
      | (with_reducible exact LeO.refl _)
      | (with_reducible exact LeO.none _)
      | (with_reducible refine LeO.ite ?_ ?_)
      | (with_reducible refine LeO.bind ?_ (fun _ => ?_))
      | exact ih0 _ _ _ _ _ _ _ _ _ _ _ _ _
      | exact mend_Locator.mono _ _ _
      | exact mend_Mend.mono _ _ _ _
      | exact mend_Message.mono _ _ _ _
      | exact LeO.none _
      | refine LeO.ite ?_ ?_
      | refine LeO.bind ?_ (fun _ => ?_)
def foghornlaw20_MendNames.T12 : Bool × List (List Nat × List Nat) := (true, [([], []), ([0], [0]), ([], []), ([1, 2], [1, 2]), ([3], [3]), ([4], [4]), ([4], [4]), ([5, 3, 0, 1, 2, 3, 4, 5], [5]), ([6, 7, 0, 1, 2, 3, 4, 5, 6, 7], [6])])
def foghornlaw20_MendNames.B12 : List Nat := [0, 1, 0, 7, 15, 31, 31, 63, 255]
theorem foghornlaw20_MendNames.tab12 : rtab .any (opsOf Try.f16 12) = foghornlaw20_MendNames.T12 := by kernel_rfl
theorem foghornlaw20_MendNames.bits12 : waitsOk foghornlaw20_MendNames.T12.2 foghornlaw20_MendNames.B12 = true := by kernel_rfl
/-- THE ONE PURE STATEMENT of foghornlaw20_MendNames: yours. -/
def foghornlaw20_MendNames.Pure : Prop := ∃ k, foghornlaw20_MendNames.f k  = some true

end Go.Proofs.Ytncoakokdajibaa.Q
