-- Printed by myprint.py (ours) over the kit's printer, out of the translation.
import Derived.Test.YtncoakokdajibaaReedMessagesK0
namespace Go.Proofs.Ytncoakokdajibaa.Q
open Go.RowKit Go.Proofs.YtncoakokdajibaaW.PrintWords Go.Proofs.YtncoakokdajibaaW.PrintLast Go.Proofs.YtncoakokdajibaaW.PrintMore
attribute [local go_sem] ArrW.ptrOf_slice max2_int min2_int max_two min_two max_three min_three max_four min_four   -- for this text's walks alone
set_option linter.unusedVariables false
set_option linter.unusedSimpArgs false

/-! ### field_Times: function 64 -/
def field_Times.l0 : Nat → Int → Int → Int → Option (Int)
  | 0, _, _, _ => none
  | k + 1, x0, x1, x5 => if x1 > 0 then (field_Times.l0 k (Go.bits .xor .u8 ((x0 * 2) % 256) (((x0 / 128) * 29) % 256)) (x1 / 2) (Go.bits .xor .u8 x5 ((x0 * (Go.bits .and .u8 x1 1)) % 256))) else (some x5)
def field_Times.f (k : Nat) (a0 : Int) (a1 : Int) : Option (Int) := field_Times.l0 k a0 a1 0
theorem field_Times.mono_l : ∀ k, (∀ y0 y1 y2, LeO (field_Times.l0 k y0 y1 y2) (field_Times.l0 (k + 1) y0 y1 y2))
  | 0 => fun _ _ _ r h => by simp [field_Times.l0] at h
  | k + 1 => by
    have ih0 := field_Times.mono_l k
    · intro y0 y1 y2
      unfold field_Times.l0
      repeat' first
      | (with_reducible exact ih0 _ _ _)
      | (with_reducible exact LeO.refl _)
      | (with_reducible exact LeO.none _)
      | (with_reducible refine LeO.ite ?_ ?_)
      | (with_reducible refine LeO.bind ?_ (fun _ => ?_))
      | exact ih0 _ _ _
      | exact LeO.none _
      | refine LeO.ite ?_ ?_
      | refine LeO.bind ?_ (fun _ => ?_)
theorem field_Times.mono : ∀ a0 a1 k, LeO (field_Times.f k a0 a1) (field_Times.f (k + 1) a0 a1) := by
  intro a0 a1 k
  have ih0 := field_Times.mono_l k
  unfold field_Times.f
  repeat' first
      | (with_reducible exact ih0 _ _ _)
      | (with_reducible exact LeO.refl _)
      | (with_reducible exact LeO.none _)
      | (with_reducible refine LeO.ite ?_ ?_)
      | (with_reducible refine LeO.bind ?_ (fun _ => ?_))
      | exact ih0 _ _ _
      | exact LeO.none _
      | refine LeO.ite ?_ ?_
      | refine LeO.bind ?_ (fun _ => ?_)

/-! ### slices_Clone_uint8_uint8: function 84 -/
def slices_Clone_uint8_uint8.f (l0 : List Int) : Option (List Int) := if l0.length < 140737488355328 then some l0 else none

/-! ### field_poly: function 79 -/
def field_poly.l0 : Nat → List Int → Int → Option (List Int)
  | 0, _, _ => none
  | k + 1, x0, x3 => if x3 > 0 then (if 0 ≤ (wrap64 (x3 - 1)) then (if (wrap64 (x3 - 1)) < (x0.length : Int) then (if (rd x0 (wrap64 (x3 - 1))) = 0 then (field_poly.l0 k x0 (wrap64 (x3 - 1))) else (if 0 ≤ x3 then (if x3 ≤ (x0.length : Int) then ((slices_Clone_uint8_uint8.f (x0.take (x3 : Int).toNat)).bind fun t103 => (some t103)) else (none)) else (none))) else (none)) else (none)) else (if 0 ≤ x3 then (if x3 ≤ (x0.length : Int) then ((slices_Clone_uint8_uint8.f (x0.take (x3 : Int).toNat)).bind fun t107 => (some t107)) else (none)) else (none))
def field_poly.f (k : Nat) (l0 : List Int) : Option (List Int) := field_poly.l0 k l0 (l0.length : Int)
theorem field_poly.mono_l : ∀ k, (∀ y0 y1, LeO (field_poly.l0 k y0 y1) (field_poly.l0 (k + 1) y0 y1))
  | 0 => fun _ _ r h => by simp [field_poly.l0] at h
  | k + 1 => by
    have ih0 := field_poly.mono_l k
    · intro y0 y1
      unfold field_poly.l0
      repeat' first
      | (with_reducible exact ih0 _ _)
      | (with_reducible exact LeO.refl _)
      | (with_reducible exact LeO.none _)
      | (with_reducible refine LeO.ite ?_ ?_)
      | (with_reducible refine LeO.bind ?_ (fun _ => ?_))
      | exact ih0 _ _
      | exact LeO.none _
      | refine LeO.ite ?_ ?_
      | refine LeO.bind ?_ (fun _ => ?_)
theorem field_poly.mono : ∀ a0 k, LeO (field_poly.f k a0) (field_poly.f (k + 1) a0) := by
  intro a0 k
  have ih0 := field_poly.mono_l k
  unfold field_poly.f
  repeat' first
      | (with_reducible exact ih0 _ _)
      | (with_reducible exact LeO.refl _)
      | (with_reducible exact LeO.none _)
      | (with_reducible refine LeO.ite ?_ ?_)
      | (with_reducible refine LeO.bind ?_ (fun _ => ?_))
      | exact ih0 _ _
      | exact LeO.none _
      | refine LeO.ite ?_ ?_
      | refine LeO.bind ?_ (fun _ => ?_)

/-! ### field_product: function 80 -/
mutual
def field_product.l0 : Nat → List Int → List Int → List Int → Int → Int → Option (List Int)
  | 0, _, _, _, _, _ => none
  | k + 1, x1, x5, x16, x17, x18 => if x18 < x17 then (if 0 ≤ x18 then (if x18 < (x16.length : Int) then (field_product.l1 k x1 x5 x18 (rd x16 x18) x16 x17 x18 x1 (x1.length : Int) 0) else (none)) else (none)) else ((field_poly.f k x5).bind fun t113 => (some t113))
def field_product.l1 : Nat → List Int → List Int → Int → Int → List Int → Int → Int → List Int → Int → Int → Option (List Int)
  | 0, _, _, _, _, _, _, _, _, _, _ => none
  | k + 1, x1, x5, x6, x7, x16, x17, x18, x23, x24, x25 => if x25 < x24 then (if 0 ≤ x25 then (if x25 < (x23.length : Int) then (if 0 ≤ (wrap64 (x6 + x25)) then (if (wrap64 (x6 + x25)) < (x5.length : Int) then ((field_Times.f k x7 (rd x23 x25)).bind fun t119 => (field_product.l1 k x1 (x5.set ((wrap64 (x6 + x25)) : Int).toNat (Go.bits .xor .u8 (rd x5 (wrap64 (x6 + x25))) t119)) x6 x7 x16 x17 x18 x23 x24 (wrap64 (x25 + 1)))) else (none)) else (none)) else (none)) else (none)) else (field_product.l0 k x1 x5 x16 x17 (wrap64 (x18 + 1)))
end
def field_product.f (k : Nat) (l0 : List Int) (l1 : List Int) : Option (List Int) := if 0 ≤ (wrap64 ((l0.length : Int) + (l1.length : Int))) then (if (wrap64 ((l0.length : Int) + (l1.length : Int)) : Int).toNat ≤ 281474976710656 then (field_product.l0 k l1 (List.replicate (wrap64 ((l0.length : Int) + (l1.length : Int)) : Int).toNat 0) l0 (l0.length : Int) 0) else (none)) else (none)
theorem field_product.mono_l : ∀ k, (∀ y0 y1 y2 y3 y4, LeO (field_product.l0 k y0 y1 y2 y3 y4) (field_product.l0 (k + 1) y0 y1 y2 y3 y4)) ∧ (∀ y0 y1 y2 y3 y4 y5 y6 y7 y8 y9, LeO (field_product.l1 k y0 y1 y2 y3 y4 y5 y6 y7 y8 y9) (field_product.l1 (k + 1) y0 y1 y2 y3 y4 y5 y6 y7 y8 y9))
  | 0 => ⟨fun _ _ _ _ _ r h => by simp [field_product.l0] at h, fun _ _ _ _ _ _ _ _ _ _ r h => by simp [field_product.l1] at h⟩
  | k + 1 => by
    obtain ⟨ih0, ih1⟩ := field_product.mono_l k
    refine ⟨?_, ?_⟩
    · intro y0 y1 y2 y3 y4
      unfold field_product.l0
      repeat' first
      | (with_reducible exact ih0 _ _ _ _ _)
      | (with_reducible exact ih1 _ _ _ _ _ _ _ _ _ _)
      | (with_reducible exact field_Times.mono _ _ _)
      | (with_reducible exact field_poly.mono _ _)
      | (with_reducible exact LeO.refl _)
      | (with_reducible exact LeO.none _)
      | (with_reducible refine LeO.ite ?_ ?_)
      | (with_reducible refine LeO.bind ?_ (fun _ => ?_))
      | exact ih0 _ _ _ _ _
      | exact ih1 _ _ _ _ _ _ _ _ _ _
      | exact field_Times.mono _ _ _
      | exact field_poly.mono _ _
      | exact LeO.none _
      | refine LeO.ite ?_ ?_
      | refine LeO.bind ?_ (fun _ => ?_)
    · intro y0 y1 y2 y3 y4 y5 y6 y7 y8 y9
      unfold field_product.l1
      repeat' first
      | (with_reducible exact ih0 _ _ _ _ _)
      | (with_reducible exact ih1 _ _ _ _ _ _ _ _ _ _)
      | (with_reducible exact field_Times.mono _ _ _)
      | (with_reducible exact field_poly.mono _ _)
      | (with_reducible exact LeO.refl _)
      | (with_reducible exact LeO.none _)
      | (with_reducible refine LeO.ite ?_ ?_)
      | (with_reducible refine LeO.bind ?_ (fun _ => ?_))
      | exact ih0 _ _ _ _ _
      | exact ih1 _ _ _ _ _ _ _ _ _ _
      | exact field_Times.mono _ _ _
      | exact field_poly.mono _ _
      | exact LeO.none _
      | refine LeO.ite ?_ ?_
      | refine LeO.bind ?_ (fun _ => ?_)
theorem field_product.mono : ∀ a0 a1 k, LeO (field_product.f k a0 a1) (field_product.f (k + 1) a0 a1) := by
  intro a0 a1 k
  obtain ⟨ih0, ih1⟩ := field_product.mono_l k
  unfold field_product.f
  repeat' first
      | (with_reducible exact ih0 _ _ _ _ _)
      | (with_reducible exact ih1 _ _ _ _ _ _ _ _ _ _)
      | (with_reducible exact field_Times.mono _ _ _)
      | (with_reducible exact field_poly.mono _ _)
      | (with_reducible exact LeO.refl _)
      | (with_reducible exact LeO.none _)
      | (with_reducible refine LeO.ite ?_ ?_)
      | (with_reducible refine LeO.bind ?_ (fun _ => ?_))
      | exact ih0 _ _ _ _ _
      | exact ih1 _ _ _ _ _ _ _ _ _ _
      | exact field_Times.mono _ _ _
      | exact field_poly.mono _ _
      | exact LeO.none _
      | refine LeO.ite ?_ ?_
      | refine LeO.bind ?_ (fun _ => ?_)
def field_product.T8 : Bool × List (List Nat × List Nat) := (true, [([], []), ([], []), ([], []), ([1, 2], [1, 2]), ([0, 3], [0, 3]), ([4], [4]), ([], []), ([], []), ([6, 7], [6, 7]), ([5, 8], [5, 8]), ([0, 3, 0, 1, 2, 3, 4, 5, 6, 7, 8, 9], [0, 3]), ([10, 9, 8, 0, 1, 2, 3, 4, 5, 6, 7, 8, 9], [9, 10])])
def field_product.B8 : List Nat := [0, 0, 0, 6, 15, 31, 0, 0, 192, 511, 1023, 2047]
theorem field_product.tab8 : rtab .any (opsOf Try.f80 8) = field_product.T8 := by kernel_rfl
theorem field_product.bits8 : waitsOk field_product.T8.2 field_product.B8 = true := by kernel_rfl

/-! ### field_Of: function 42 -/
def field_Of.l0 : Nat → List Int → List Int → Int → Int → Option (List Int × Int)
  | 0, _, _, _, _ => none
  | k + 1, x4, x11, x12, x13 => if x13 < x12 then (if 0 ≤ x13 then (if x13 < (x11.length : Int) then ((field_product.f k x4 (([rd x11 x13, 1] : List Int))).bind fun t128 => (field_Of.l0 k t128 x11 x12 (wrap64 (x13 + 1)))) else (none)) else (none)) else (some (x4, 0))
def field_Of.f (k : Nat) (l0 : List Int) : Option (List Int × Int) := if (l0.length : Int) ≥ 512 then (some (([] : List Int), 1)) else (field_Of.l0 k (([1] : List Int)) l0 (l0.length : Int) 0)
theorem field_Of.mono_l : ∀ k, (∀ y0 y1 y2 y3, LeO (field_Of.l0 k y0 y1 y2 y3) (field_Of.l0 (k + 1) y0 y1 y2 y3))
  | 0 => fun _ _ _ _ r h => by simp [field_Of.l0] at h
  | k + 1 => by
    have ih0 := field_Of.mono_l k
    · intro y0 y1 y2 y3
      unfold field_Of.l0
      repeat' first
      | (with_reducible exact ih0 _ _ _ _)
      | (with_reducible exact field_product.mono _ _ _)
      | (with_reducible exact LeO.refl _)
      | (with_reducible exact LeO.none _)
      | (with_reducible refine LeO.ite ?_ ?_)
      | (with_reducible refine LeO.bind ?_ (fun _ => ?_))
      | exact ih0 _ _ _ _
      | exact field_product.mono _ _ _
      | exact LeO.none _
      | refine LeO.ite ?_ ?_
      | refine LeO.bind ?_ (fun _ => ?_)
theorem field_Of.mono : ∀ a0 k, LeO (field_Of.f k a0) (field_Of.f (k + 1) a0) := by
  intro a0 k
  have ih0 := field_Of.mono_l k
  unfold field_Of.f
  repeat' first
      | (with_reducible exact ih0 _ _ _ _)
      | (with_reducible exact field_product.mono _ _ _)
      | (with_reducible exact LeO.refl _)
      | (with_reducible exact LeO.none _)
      | (with_reducible refine LeO.ite ?_ ?_)
      | (with_reducible refine LeO.bind ?_ (fun _ => ?_))
      | exact ih0 _ _ _ _
      | exact field_product.mono _ _ _
      | exact LeO.none _
      | refine LeO.ite ?_ ?_
      | refine LeO.bind ?_ (fun _ => ?_)

/-! ### field_raised: function 83 -/
def field_raised.l0 : Nat → Int → Int → Int → Option (Int)
  | 0, _, _, _ => none
  | k + 1, x0, x1, x5 => if x1 > 0 then (if (Go.bits .and .i64 x1 1) > 0 then ((field_Times.f k x5 x0).bind fun t131 => ((field_Times.f k x0 x0).bind fun t132 => (field_raised.l0 k t132 (x1 / 2) t131))) else ((field_Times.f k x0 x0).bind fun t133 => (field_raised.l0 k t133 (x1 / 2) x5))) else (some x5)
def field_raised.f (k : Nat) (a0 : Int) (a1 : Int) : Option (Int) := field_raised.l0 k a0 a1 1
theorem field_raised.mono_l : ∀ k, (∀ y0 y1 y2, LeO (field_raised.l0 k y0 y1 y2) (field_raised.l0 (k + 1) y0 y1 y2))
  | 0 => fun _ _ _ r h => by simp [field_raised.l0] at h
  | k + 1 => by
    have ih0 := field_raised.mono_l k
    · intro y0 y1 y2
      unfold field_raised.l0
      repeat' first
      | (with_reducible exact ih0 _ _ _)
      | (with_reducible exact field_Times.mono _ _ _)
      | (with_reducible exact LeO.refl _)
      | (with_reducible exact LeO.none _)
      | (with_reducible refine LeO.ite ?_ ?_)
      | (with_reducible refine LeO.bind ?_ (fun _ => ?_))
      | exact ih0 _ _ _
      | exact field_Times.mono _ _ _
      | exact LeO.none _
      | refine LeO.ite ?_ ?_
      | refine LeO.bind ?_ (fun _ => ?_)
theorem field_raised.mono : ∀ a0 a1 k, LeO (field_raised.f k a0 a1) (field_raised.f (k + 1) a0 a1) := by
  intro a0 a1 k
  have ih0 := field_raised.mono_l k
  unfold field_raised.f
  repeat' first
      | (with_reducible exact ih0 _ _ _)
      | (with_reducible exact field_Times.mono _ _ _)
      | (with_reducible exact LeO.refl _)
      | (with_reducible exact LeO.none _)
      | (with_reducible refine LeO.ite ?_ ?_)
      | (with_reducible refine LeO.bind ?_ (fun _ => ?_))
      | exact ih0 _ _ _
      | exact field_Times.mono _ _ _
      | exact LeO.none _
      | refine LeO.ite ?_ ?_
      | refine LeO.bind ?_ (fun _ => ?_)

/-! ### field_Exp: function 65 -/
def field_Exp.f (k : Nat) (a0 : Int) : Option (Int) := (field_raised.f k 2 (Int.tmod (wrap64 ((Int.tmod a0 255) + 255)) 255)).bind fun t134 => (some t134)
theorem field_Exp.mono : ∀ a0 k, LeO (field_Exp.f k a0) (field_Exp.f (k + 1) a0) := by
  intro a0 k
  unfold field_Exp.f
  repeat' first
      | (with_reducible exact field_raised.mono _ _ _)
      | (with_reducible exact LeO.refl _)
      | (with_reducible exact LeO.none _)
      | (with_reducible refine LeO.ite ?_ ?_)
      | (with_reducible refine LeO.bind ?_ (fun _ => ?_))
      | exact field_raised.mono _ _ _
      | exact LeO.none _
      | refine LeO.ite ?_ ?_
      | refine LeO.bind ?_ (fun _ => ?_)

/-! ### reed_checks: function 71 -/
def reed_checks.f (a0 : Int) : Option (Bool) := if a0 ≥ 2 then (if a0 ≤ 64 then (some ((Int.tmod a0 2) == 0)) else (some false)) else (some false)

/-! ### reed_Generator: function 33 -/
def reed_Generator.l0 : Nat → List Int → Int → Int → Option (List Int × Int)
  | 0, _, _, _ => none
  | k + 1, x4, x11, x12 => if x12 < x11 then ((field_Exp.f k x12).bind fun t139 => (if 0 ≤ x12 then (if x12 < (x4.length : Int) then (reed_Generator.l0 k (x4.set (x12 : Int).toNat t139) x11 (wrap64 (x12 + 1))) else (none)) else (none))) else ((field_Of.f k x4).bind fun bt141 => (some (bt141.1, bt141.2)))
def reed_Generator.f (k : Nat) (a0 : Int) : Option (List Int × Int) := (reed_checks.f a0).bind fun t135 => (if t135 = true then (if 0 ≤ a0 then (if (a0 : Int).toNat ≤ 281474976710656 then (reed_Generator.l0 k (List.replicate (a0 : Int).toNat 0) a0 0) else (none)) else (none)) else (some (([] : List Int), 1)))
theorem reed_Generator.mono_l : ∀ k, (∀ y0 y1 y2, LeO (reed_Generator.l0 k y0 y1 y2) (reed_Generator.l0 (k + 1) y0 y1 y2))
  | 0 => fun _ _ _ r h => by simp [reed_Generator.l0] at h
  | k + 1 => by
    have ih0 := reed_Generator.mono_l k
    · intro y0 y1 y2
      unfold reed_Generator.l0
      repeat' first
      | (with_reducible exact ih0 _ _ _)
      | (with_reducible exact field_Exp.mono _ _)
      | (with_reducible exact field_Of.mono _ _)
      | (with_reducible exact LeO.refl _)
      | (with_reducible exact LeO.none _)
      | (with_reducible refine LeO.ite ?_ ?_)
      | (with_reducible refine LeO.bind ?_ (fun _ => ?_))
      | exact ih0 _ _ _
      | exact field_Exp.mono _ _
      | exact field_Of.mono _ _
      | exact LeO.none _
      | refine LeO.ite ?_ ?_
      | refine LeO.bind ?_ (fun _ => ?_)
theorem reed_Generator.mono : ∀ a0 k, LeO (reed_Generator.f k a0) (reed_Generator.f (k + 1) a0) := by
  intro a0 k
  have ih0 := reed_Generator.mono_l k
  unfold reed_Generator.f
  repeat' first
      | (with_reducible exact ih0 _ _ _)
      | (with_reducible exact field_Exp.mono _ _)
      | (with_reducible exact field_Of.mono _ _)
      | (with_reducible exact LeO.refl _)
      | (with_reducible exact LeO.none _)
      | (with_reducible refine LeO.ite ?_ ?_)
      | (with_reducible refine LeO.bind ?_ (fun _ => ?_))
      | exact ih0 _ _ _
      | exact field_Exp.mono _ _
      | exact field_Of.mono _ _
      | exact LeO.none _
      | refine LeO.ite ?_ ?_
      | refine LeO.bind ?_ (fun _ => ?_)

/-! ### reed_Check: function 34 -/
def reed_Check.f (a0 : Int) (a1 : Int) : Option (Int) := (reed_checks.f a1).bind fun t145 => (if t145 = true then (if a0 ≤ a1 then (some 1) else (if a0 > 255 then (some 1) else (some 0))) else (some 1))

/-! ### reed_Encode: function 19 -/
mutual
def reed_Encode.j0 : Nat → ByteArray → Int → Bool → Option (ByteArray × Int)
  | 0, _, _, _ => none
  | k + 1, x0, x1, x22 => if x22 = true then (some ((⟨#[]⟩ : ByteArray), 1)) else ((reed_Generator.f k x1).bind fun bt147 => (reed_Encode.l0 k x0 x1 bt147.1 (List.replicate 64 0) (x0.size : Int) 0))
def reed_Encode.l0 : Nat → ByteArray → Int → List Int → List Int → Int → Int → Option (ByteArray × Int)
  | 0, _, _, _, _, _, _ => none
  | k + 1, x0, x1, x6, x8, x29, x30 => if x30 < x29 then (if 0 ≤ x30 then (if x30 < (x0.size : Int) then (if 0 < 64 then (if 0 < (x8.length : Int) then (if 0 ≤ (wrap64 (x1 - 1)) then (if (wrap64 (x1 - 1)) ≤ 64 then (if (wrap64 (x1 - 1)) ≤ (x8.length : Int) then (if 1 ≤ (wrap64 (x1 - 1)) then (if 1 ≤ x1 then (if x1 ≤ 64 then (if x1 ≤ (x8.length : Int) then (if (wrap64 (x1 - 1)) < 64 then (if (wrap64 (x1 - 1)) < (x8.length : Int) then (reed_Encode.l1 k x0 x1 x6 ((ArrW.setFrom x8 0 ((x8.drop 1).take ((wrap64 (x1 - 1)) : Int).toNat)).set ((wrap64 (x1 - 1)) : Int).toNat 0) (Go.bits .xor .u8 (bt x0 x30) (rd x8 0)) x29 x30 x1 0) else (none)) else (none)) else (none)) else (none)) else (none)) else (none)) else (none)) else (none)) else (none)) else (none)) else (none)) else (none)) else (none)) else (if 0 ≤ x1 then (if x1 ≤ 64 then (if x1 ≤ (x8.length : Int) then (if 1 ≤ x1 then (if x0.size + (strOfNums (x8.take (x1 : Int).toNat)).size ≤ 9223372036854775807 then (some (x0 ++ (strOfNums (x8.take (x1 : Int).toNat)), 0)) else (none)) else (none)) else (none)) else (none)) else (none))
def reed_Encode.l1 : Nat → ByteArray → Int → List Int → List Int → Int → Int → Int → Int → Int → Option (ByteArray × Int)
  | 0, _, _, _, _, _, _, _, _, _ => none
  | k + 1, x0, x1, x6, x8, x10, x29, x30, x48, x49 => if x49 < x48 then (if 0 ≤ x49 then (if x49 < 64 then (if x49 < (x8.length : Int) then (if 0 ≤ (wrap64 ((wrap64 (x1 - 1)) - x49)) then (if (wrap64 ((wrap64 (x1 - 1)) - x49)) < (x6.length : Int) then ((field_Times.f k x10 (rd x6 (wrap64 ((wrap64 (x1 - 1)) - x49)))).bind fun t159 => (reed_Encode.l1 k x0 x1 x6 (x8.set (x49 : Int).toNat (Go.bits .xor .u8 (rd x8 x49) t159)) x10 x29 x30 x48 (wrap64 (x49 + 1)))) else (none)) else (none)) else (none)) else (none)) else (none)) else (reed_Encode.l0 k x0 x1 x6 x8 x29 (wrap64 (x30 + 1)))
end
def reed_Encode.f (k : Nat) (a0 : ByteArray) (a1 : Int) : Option (ByteArray × Int) := (reed_Check.f (wrap64 ((a0.size : Int) + a1)) a1).bind fun t146 => (if t146 = 0 then (reed_Encode.j0 k a0 a1 (a0.toList == ([] : List UInt8))) else (reed_Encode.j0 k a0 a1 true))
theorem reed_Encode.mono_l : ∀ k, (∀ y0 y1 y2, LeO (reed_Encode.j0 k y0 y1 y2) (reed_Encode.j0 (k + 1) y0 y1 y2)) ∧ (∀ y0 y1 y2 y3 y4 y5, LeO (reed_Encode.l0 k y0 y1 y2 y3 y4 y5) (reed_Encode.l0 (k + 1) y0 y1 y2 y3 y4 y5)) ∧ (∀ y0 y1 y2 y3 y4 y5 y6 y7 y8, LeO (reed_Encode.l1 k y0 y1 y2 y3 y4 y5 y6 y7 y8) (reed_Encode.l1 (k + 1) y0 y1 y2 y3 y4 y5 y6 y7 y8))
  | 0 => ⟨fun _ _ _ r h => by simp [reed_Encode.j0] at h, fun _ _ _ _ _ _ r h => by simp [reed_Encode.l0] at h, fun _ _ _ _ _ _ _ _ _ r h => by simp [reed_Encode.l1] at h⟩
  | k + 1 => by
    obtain ⟨ih0, ih1, ih2⟩ := reed_Encode.mono_l k
    refine ⟨?_, ?_, ?_⟩
    · intro y0 y1 y2
      unfold reed_Encode.j0
      repeat' first
      | (with_reducible exact ih0 _ _ _)
      | (with_reducible exact ih1 _ _ _ _ _ _)
      | (with_reducible exact ih2 _ _ _ _ _ _ _ _ _)
      | (with_reducible exact field_Times.mono _ _ _)
      | (with_reducible exact reed_Generator.mono _ _)
      | (with_reducible exact LeO.refl _)
      | (with_reducible exact LeO.none _)
      | (with_reducible refine LeO.ite ?_ ?_)
      | (with_reducible refine LeO.bind ?_ (fun _ => ?_))
      | exact ih0 _ _ _
      | exact ih1 _ _ _ _ _ _
      | exact ih2 _ _ _ _ _ _ _ _ _
      | exact field_Times.mono _ _ _
      | exact reed_Generator.mono _ _
      | exact LeO.none _
      | refine LeO.ite ?_ ?_
      | refine LeO.bind ?_ (fun _ => ?_)
    · intro y0 y1 y2 y3 y4 y5
      unfold reed_Encode.l0
      repeat' first
      | (with_reducible exact ih0 _ _ _)
      | (with_reducible exact ih1 _ _ _ _ _ _)
      | (with_reducible exact ih2 _ _ _ _ _ _ _ _ _)
      | (with_reducible exact field_Times.mono _ _ _)
      | (with_reducible exact reed_Generator.mono _ _)
      | (with_reducible exact LeO.refl _)
      | (with_reducible exact LeO.none _)
      | (with_reducible refine LeO.ite ?_ ?_)
      | (with_reducible refine LeO.bind ?_ (fun _ => ?_))
      | exact ih0 _ _ _
      | exact ih1 _ _ _ _ _ _
      | exact ih2 _ _ _ _ _ _ _ _ _
      | exact field_Times.mono _ _ _
      | exact reed_Generator.mono _ _
      | exact LeO.none _
      | refine LeO.ite ?_ ?_
      | refine LeO.bind ?_ (fun _ => ?_)
    · intro y0 y1 y2 y3 y4 y5 y6 y7 y8
      unfold reed_Encode.l1
      repeat' first
      | (with_reducible exact ih0 _ _ _)
      | (with_reducible exact ih1 _ _ _ _ _ _)
      | (with_reducible exact ih2 _ _ _ _ _ _ _ _ _)
      | (with_reducible exact field_Times.mono _ _ _)
      | (with_reducible exact reed_Generator.mono _ _)
      | (with_reducible exact LeO.refl _)
      | (with_reducible exact LeO.none _)
      | (with_reducible refine LeO.ite ?_ ?_)
      | (with_reducible refine LeO.bind ?_ (fun _ => ?_))
      | exact ih0 _ _ _
      | exact ih1 _ _ _ _ _ _
      | exact ih2 _ _ _ _ _ _ _ _ _
      | exact field_Times.mono _ _ _
      | exact reed_Generator.mono _ _
      | exact LeO.none _
      | refine LeO.ite ?_ ?_
      | refine LeO.bind ?_ (fun _ => ?_)
theorem reed_Encode.mono : ∀ a0 a1 k, LeO (reed_Encode.f k a0 a1) (reed_Encode.f (k + 1) a0 a1) := by
  intro a0 a1 k
  obtain ⟨ih0, ih1, ih2⟩ := reed_Encode.mono_l k
  unfold reed_Encode.f
  repeat' first
      | (with_reducible exact ih0 _ _ _)
      | (with_reducible exact ih1 _ _ _ _ _ _)
      | (with_reducible exact ih2 _ _ _ _ _ _ _ _ _)
      | (with_reducible exact field_Times.mono _ _ _)
      | (with_reducible exact reed_Generator.mono _ _)
      | (with_reducible exact LeO.refl _)
      | (with_reducible exact LeO.none _)
      | (with_reducible refine LeO.ite ?_ ?_)
      | (with_reducible refine LeO.bind ?_ (fun _ => ?_))
      | exact ih0 _ _ _
      | exact ih1 _ _ _ _ _ _
      | exact ih2 _ _ _ _ _ _ _ _ _
      | exact field_Times.mono _ _ _
      | exact reed_Generator.mono _ _
      | exact LeO.none _
      | refine LeO.ite ?_ ?_
      | refine LeO.bind ?_ (fun _ => ?_)
def reed_Encode.T14 : Bool × List (List Nat × List Nat) := (true, [([], []), ([0], [0]), ([1], [1]), ([], []), ([], []), ([], []), ([5], [5]), ([], []), ([6, 7], [6, 7]), ([4, 8], [4, 8]), ([9], [9]), ([3, 10], [3, 10]), ([2, 11], [2, 11]), ([0, 0, 1, 2, 3, 4, 5, 6, 7, 8, 9, 10, 11, 12], [0]), ([13, 12, 11, 0, 1, 2, 3, 4, 5, 6, 7, 8, 9, 10, 11, 12], [12, 13])])
def reed_Encode.B14 : List Nat := [0, 1, 3, 0, 0, 0, 32, 0, 224, 496, 1008, 2040, 4095, 8191, 16383]
theorem reed_Encode.tab14 : rtab .any (opsOf Try.f19 14) = reed_Encode.T14 := by kernel_rfl
theorem reed_Encode.bits14 : waitsOk reed_Encode.T14.2 reed_Encode.B14 = true := by kernel_rfl

/-! ### reed_Syndromes: function 22 -/
mutual
def reed_Syndromes.l0 : Nat → ByteArray → List Int → Int → Int → Option (List Int × Int)
  | 0, _, _, _, _ => none
  | k + 1, x0, x6, x18, x19 => if x19 < x18 then ((field_Exp.f k x19).bind fun t165 => (reed_Syndromes.l1 k x0 x6 x19 t165 x18 x19 (x0.size : Int) 0)) else (some (x6, 0))
def reed_Syndromes.l1 : Nat → ByteArray → List Int → Int → Int → Int → Int → Int → Int → Option (List Int × Int)
  | 0, _, _, _, _, _, _, _, _ => none
  | k + 1, x0, x6, x7, x8, x18, x19, x25, x26 => if x26 < x25 then (if 0 ≤ x7 then (if x7 < (x6.length : Int) then ((field_Times.f k (rd x6 x7) x8).bind fun t167 => (if 0 ≤ x26 then (if x26 < (x0.size : Int) then (reed_Syndromes.l1 k x0 (x6.set (x7 : Int).toNat (Go.bits .xor .u8 t167 (bt x0 x26))) x7 x8 x18 x19 x25 (wrap64 (x26 + 1))) else (none)) else (none))) else (none)) else (none)) else (reed_Syndromes.l0 k x0 x6 x18 (wrap64 (x19 + 1)))
end
def reed_Syndromes.f (k : Nat) (a0 : ByteArray) (a1 : Int) : Option (List Int × Int) := (reed_Check.f (a0.size : Int) a1).bind fun t161 => (if t161 = 0 then (if 0 ≤ a1 then (if (a1 : Int).toNat ≤ 281474976710656 then ((some (List.replicate (a1 : Int).toNat 0 : List Int)).bind fun y162 => (reed_Syndromes.l0 k a0 y162 (y162.length : Int) 0)) else (none)) else (none)) else (some (([] : List Int), 1)))
theorem reed_Syndromes.mono_l : ∀ k, (∀ y0 y1 y2 y3, LeO (reed_Syndromes.l0 k y0 y1 y2 y3) (reed_Syndromes.l0 (k + 1) y0 y1 y2 y3)) ∧ (∀ y0 y1 y2 y3 y4 y5 y6 y7, LeO (reed_Syndromes.l1 k y0 y1 y2 y3 y4 y5 y6 y7) (reed_Syndromes.l1 (k + 1) y0 y1 y2 y3 y4 y5 y6 y7))
  | 0 => ⟨fun _ _ _ _ r h => by simp [reed_Syndromes.l0] at h, fun _ _ _ _ _ _ _ _ r h => by simp [reed_Syndromes.l1] at h⟩
  | k + 1 => by
    obtain ⟨ih0, ih1⟩ := reed_Syndromes.mono_l k
    refine ⟨?_, ?_⟩
    · intro y0 y1 y2 y3
      unfold reed_Syndromes.l0
      repeat' first
      | (with_reducible exact ih0 _ _ _ _)
      | (with_reducible exact ih1 _ _ _ _ _ _ _ _)
      | (with_reducible exact field_Exp.mono _ _)
      | (with_reducible exact field_Times.mono _ _ _)
      | (with_reducible exact LeO.refl _)
      | (with_reducible exact LeO.none _)
      | (with_reducible refine LeO.ite ?_ ?_)
      | (with_reducible refine LeO.bind ?_ (fun _ => ?_))
      | exact ih0 _ _ _ _
      | exact ih1 _ _ _ _ _ _ _ _
      | exact field_Exp.mono _ _
      | exact field_Times.mono _ _ _
      | exact LeO.none _
      | refine LeO.ite ?_ ?_
      | refine LeO.bind ?_ (fun _ => ?_)
    · intro y0 y1 y2 y3 y4 y5 y6 y7
      unfold reed_Syndromes.l1
      repeat' first
      | (with_reducible exact ih0 _ _ _ _)
      | (with_reducible exact ih1 _ _ _ _ _ _ _ _)
      | (with_reducible exact field_Exp.mono _ _)
      | (with_reducible exact field_Times.mono _ _ _)
      | (with_reducible exact LeO.refl _)
      | (with_reducible exact LeO.none _)
      | (with_reducible refine LeO.ite ?_ ?_)
      | (with_reducible refine LeO.bind ?_ (fun _ => ?_))
      | exact ih0 _ _ _ _
      | exact ih1 _ _ _ _ _ _ _ _
      | exact field_Exp.mono _ _
      | exact field_Times.mono _ _ _
      | exact LeO.none _
      | refine LeO.ite ?_ ?_
      | refine LeO.bind ?_ (fun _ => ?_)
theorem reed_Syndromes.mono : ∀ a0 a1 k, LeO (reed_Syndromes.f k a0 a1) (reed_Syndromes.f (k + 1) a0 a1) := by
  intro a0 a1 k
  obtain ⟨ih0, ih1⟩ := reed_Syndromes.mono_l k
  unfold reed_Syndromes.f
  repeat' first
      | (with_reducible exact ih0 _ _ _ _)
      | (with_reducible exact ih1 _ _ _ _ _ _ _ _)
      | (with_reducible exact field_Exp.mono _ _)
      | (with_reducible exact field_Times.mono _ _ _)
      | (with_reducible exact LeO.refl _)
      | (with_reducible exact LeO.none _)
      | (with_reducible refine LeO.ite ?_ ?_)
      | (with_reducible refine LeO.bind ?_ (fun _ => ?_))
      | exact ih0 _ _ _ _
      | exact ih1 _ _ _ _ _ _ _ _
      | exact field_Exp.mono _ _
      | exact field_Times.mono _ _ _
      | exact LeO.none _
      | refine LeO.ite ?_ ?_
      | refine LeO.bind ?_ (fun _ => ?_)
def reed_Syndromes.T11 : Bool × List (List Nat × List Nat) := (true, [([], []), ([], []), ([], []), ([], []), ([2, 3], [2, 3]), ([4], [4]), ([], []), ([5, 6], [5, 6]), ([], []), ([], []), ([8, 9], [8, 9]), ([7, 10], [7, 10]), ([0, 1, 0, 1, 2, 3, 4, 5, 6, 7, 8, 9, 10, 11], [0, 1]), ([12, 11, 7, 0, 1, 2, 3, 4, 5, 6, 7, 8, 9, 10, 11], [11, 12])])
def reed_Syndromes.B11 : List Nat := [0, 0, 0, 0, 12, 28, 0, 124, 0, 0, 768, 2044, 4095, 8191]
theorem reed_Syndromes.tab11 : rtab .any (opsOf Try.f22 11) = reed_Syndromes.T11 := by kernel_rfl
theorem reed_Syndromes.bits11 : waitsOk reed_Syndromes.T11.2 reed_Syndromes.B11 = true := by kernel_rfl

/-! ### reed_Whole: function 21 -/
def reed_Whole.l0 : Nat → List Int → Int → Int → Option (Bool × Int)
  | 0, _, _, _ => none
  | k + 1, x19, x20, x21 => if x21 < x20 then (if 0 ≤ x21 then (if x21 < (x19.length : Int) then (if (rd x19 x21) = 0 then (reed_Whole.l0 k x19 x20 (wrap64 (x21 + 1))) else (some (false, 0))) else (none)) else (none)) else (some (true, 0))
def reed_Whole.f (k : Nat) (a0 : ByteArray) (a1 : Int) : Option (Bool × Int) := (reed_Syndromes.f k a0 a1).bind fun bt169 => (if bt169.2 = 0 then (reed_Whole.l0 k bt169.1 (bt169.1.length : Int) 0) else (some (false, bt169.2)))
theorem reed_Whole.mono_l : ∀ k, (∀ y0 y1 y2, LeO (reed_Whole.l0 k y0 y1 y2) (reed_Whole.l0 (k + 1) y0 y1 y2))
  | 0 => fun _ _ _ r h => by simp [reed_Whole.l0] at h
  | k + 1 => by
    have ih0 := reed_Whole.mono_l k
    · intro y0 y1 y2
      unfold reed_Whole.l0
      repeat' first
      | (with_reducible exact ih0 _ _ _)
      | (with_reducible exact reed_Syndromes.mono _ _ _)
      | (with_reducible exact LeO.refl _)
      | (with_reducible exact LeO.none _)
      | (with_reducible refine LeO.ite ?_ ?_)
      | (with_reducible refine LeO.bind ?_ (fun _ => ?_))
      | exact ih0 _ _ _
      | exact reed_Syndromes.mono _ _ _
      | exact LeO.none _
      | refine LeO.ite ?_ ?_
      | refine LeO.bind ?_ (fun _ => ?_)
theorem reed_Whole.mono : ∀ a0 a1 k, LeO (reed_Whole.f k a0 a1) (reed_Whole.f (k + 1) a0 a1) := by
  intro a0 a1 k
  have ih0 := reed_Whole.mono_l k
  unfold reed_Whole.f
  repeat' first
      | (with_reducible exact ih0 _ _ _)
      | (with_reducible exact reed_Syndromes.mono _ _ _)
      | (with_reducible exact LeO.refl _)
      | (with_reducible exact LeO.none _)
      | (with_reducible refine LeO.ite ?_ ?_)
      | (with_reducible refine LeO.bind ?_ (fun _ => ?_))
      | exact ih0 _ _ _
      | exact reed_Syndromes.mono _ _ _
      | exact LeO.none _
      | refine LeO.ite ?_ ?_
      | refine LeO.bind ?_ (fun _ => ?_)

/-! ### reed_Apart: function 23 -/
def reed_Apart.l0 : Nat → ByteArray → ByteArray → Int → Int → Int → Option (Int × Int)
  | 0, _, _, _, _, _ => none
  | k + 1, x0, x1, x6, x14, x15 => if x15 < x14 then (if 0 ≤ x15 then (if x15 < (x0.size : Int) then (if x15 < (x1.size : Int) then (if (bt x0 x15) = (bt x1 x15) then (reed_Apart.l0 k x0 x1 x6 x14 (wrap64 (x15 + 1))) else (reed_Apart.l0 k x0 x1 (wrap64 (x6 + 1)) x14 (wrap64 (x15 + 1)))) else (none)) else (none)) else (none)) else (some (x6, 0))
def reed_Apart.f (k : Nat) (a0 : ByteArray) (a1 : ByteArray) : Option (Int × Int) := if (a0.size : Int) = (a1.size : Int) then (reed_Apart.l0 k a0 a1 0 (a0.size : Int) 0) else (some (0, 1))
theorem reed_Apart.mono_l : ∀ k, (∀ y0 y1 y2 y3 y4, LeO (reed_Apart.l0 k y0 y1 y2 y3 y4) (reed_Apart.l0 (k + 1) y0 y1 y2 y3 y4))
  | 0 => fun _ _ _ _ _ r h => by simp [reed_Apart.l0] at h
  | k + 1 => by
    have ih0 := reed_Apart.mono_l k
    · intro y0 y1 y2 y3 y4
      unfold reed_Apart.l0
      repeat' first
      | (with_reducible exact ih0 _ _ _ _ _)
      | (with_reducible exact LeO.refl _)
      | (with_reducible exact LeO.none _)
      | (with_reducible refine LeO.ite ?_ ?_)
      | (with_reducible refine LeO.bind ?_ (fun _ => ?_))
      | exact ih0 _ _ _ _ _
      | exact LeO.none _
      | refine LeO.ite ?_ ?_
      | refine LeO.bind ?_ (fun _ => ?_)
theorem reed_Apart.mono : ∀ a0 a1 k, LeO (reed_Apart.f k a0 a1) (reed_Apart.f (k + 1) a0 a1) := by
  intro a0 a1 k
  have ih0 := reed_Apart.mono_l k
  unfold reed_Apart.f
  repeat' first
      | (with_reducible exact ih0 _ _ _ _ _)
      | (with_reducible exact LeO.refl _)
      | (with_reducible exact LeO.none _)
      | (with_reducible refine LeO.ite ?_ ?_)
      | (with_reducible refine LeO.bind ?_ (fun _ => ?_))
      | exact ih0 _ _ _ _ _
      | exact LeO.none _
      | refine LeO.ite ?_ ?_
      | refine LeO.bind ?_ (fun _ => ?_)

/-! ### foghornref19_Check: function 66 -/
def foghornref19_Check.f (a0 : Int) (a1 : Int) : Option (Int) := if a1 < 2 then (some 1) else (if a1 > 64 then (some 1) else (if (Int.tmod a1 2) = 0 then (if a0 < (wrap64 (a1 + 1)) then (some 1) else (if a0 > 255 then (some 1) else (some 0))) else (some 1)))

/-! ### foghornref19_Times: function 68 -/
def foghornref19_Times.l0 : Nat → Int → Int → Int → Int → Option (Int)
  | 0, _, _, _, _ => none
  | k + 1, x1, x5, x6, x7 => if x7 < 8 then (if 0 ≤ x7 then (if (Go.bits .and .u8 (shr .u8 x1 x7) 1) = 1 then (if (wrap64 (2 * x5)) > 255 then (foghornref19_Times.l0 k x1 (Go.bits .xor .i64 (wrap64 (2 * x5)) 285) (Go.bits .xor .i64 x6 x5) (wrap64 (x7 + 1))) else (foghornref19_Times.l0 k x1 (wrap64 (2 * x5)) (Go.bits .xor .i64 x6 x5) (wrap64 (x7 + 1)))) else (if (wrap64 (2 * x5)) > 255 then (foghornref19_Times.l0 k x1 (Go.bits .xor .i64 (wrap64 (2 * x5)) 285) x6 (wrap64 (x7 + 1))) else (foghornref19_Times.l0 k x1 (wrap64 (2 * x5)) x6 (wrap64 (x7 + 1))))) else (none)) else (some ((x6) % 256))
def foghornref19_Times.f (k : Nat) (a0 : Int) (a1 : Int) : Option (Int) := foghornref19_Times.l0 k a1 (wrap64 (a0)) 0 0
theorem foghornref19_Times.mono_l : ∀ k, (∀ y0 y1 y2 y3, LeO (foghornref19_Times.l0 k y0 y1 y2 y3) (foghornref19_Times.l0 (k + 1) y0 y1 y2 y3))
  | 0 => fun _ _ _ _ r h => by simp [foghornref19_Times.l0] at h
  | k + 1 => by
    have ih0 := foghornref19_Times.mono_l k
    · intro y0 y1 y2 y3
      unfold foghornref19_Times.l0
      repeat' first
      | (with_reducible exact ih0 _ _ _ _)
      | (with_reducible exact LeO.refl _)
      | (with_reducible exact LeO.none _)
      | (with_reducible refine LeO.ite ?_ ?_)
      | (with_reducible refine LeO.bind ?_ (fun _ => ?_))
      | exact ih0 _ _ _ _
      | exact LeO.none _
      | refine LeO.ite ?_ ?_
      | refine LeO.bind ?_ (fun _ => ?_)
theorem foghornref19_Times.mono : ∀ a0 a1 k, LeO (foghornref19_Times.f k a0 a1) (foghornref19_Times.f (k + 1) a0 a1) := by
  intro a0 a1 k
  have ih0 := foghornref19_Times.mono_l k
  unfold foghornref19_Times.f
  repeat' first
      | (with_reducible exact ih0 _ _ _ _)
      | (with_reducible exact LeO.refl _)
      | (with_reducible exact LeO.none _)
      | (with_reducible refine LeO.ite ?_ ?_)
      | (with_reducible refine LeO.bind ?_ (fun _ => ?_))
      | exact ih0 _ _ _ _
      | exact LeO.none _
      | refine LeO.ite ?_ ?_
      | refine LeO.bind ?_ (fun _ => ?_)

/-! ### foghornref19_Power: function 70 -/
def foghornref19_Power.l0 : Nat → Int → Int → Int → Option (Int)
  | 0, _, _, _ => none
  | k + 1, x0, x3, x4 => if x4 < x0 then ((foghornref19_Times.f k x3 2).bind fun t242 => (foghornref19_Power.l0 k x0 t242 (wrap64 (x4 + 1)))) else (some x3)
def foghornref19_Power.f (k : Nat) (a0 : Int) : Option (Int) := foghornref19_Power.l0 k a0 1 0
theorem foghornref19_Power.mono_l : ∀ k, (∀ y0 y1 y2, LeO (foghornref19_Power.l0 k y0 y1 y2) (foghornref19_Power.l0 (k + 1) y0 y1 y2))
  | 0 => fun _ _ _ r h => by simp [foghornref19_Power.l0] at h
  | k + 1 => by
    have ih0 := foghornref19_Power.mono_l k
    · intro y0 y1 y2
      unfold foghornref19_Power.l0
      repeat' first
      | (with_reducible exact ih0 _ _ _)
      | (with_reducible exact foghornref19_Times.mono _ _ _)
      | (with_reducible exact LeO.refl _)
      | (with_reducible exact LeO.none _)
      | (with_reducible refine LeO.ite ?_ ?_)
      | (with_reducible refine LeO.bind ?_ (fun _ => ?_))
      | exact ih0 _ _ _
      | exact foghornref19_Times.mono _ _ _
      | exact LeO.none _
      | refine LeO.ite ?_ ?_
      | refine LeO.bind ?_ (fun _ => ?_)
theorem foghornref19_Power.mono : ∀ a0 k, LeO (foghornref19_Power.f k a0) (foghornref19_Power.f (k + 1) a0) := by
  intro a0 k
  have ih0 := foghornref19_Power.mono_l k
  unfold foghornref19_Power.f
  repeat' first
      | (with_reducible exact ih0 _ _ _)
      | (with_reducible exact foghornref19_Times.mono _ _ _)
      | (with_reducible exact LeO.refl _)
      | (with_reducible exact LeO.none _)
      | (with_reducible refine LeO.ite ?_ ?_)
      | (with_reducible refine LeO.bind ?_ (fun _ => ?_))
      | exact ih0 _ _ _
      | exact foghornref19_Times.mono _ _ _
      | exact LeO.none _
      | refine LeO.ite ?_ ?_
      | refine LeO.bind ?_ (fun _ => ?_)

/-! ### foghornref19_Generator: function 67 -/
mutual
def foghornref19_Generator.l0 : Nat → Int → List Int → Int → Option (List Int × Int)
  | 0, _, _, _ => none
  | k + 1, x0, x4, x5 => if x5 < x0 then ((foghornref19_Power.f k x5).bind fun t247 => (if 0 ≤ (wrap64 ((x4.length : Int) + 1)) then (if (wrap64 ((x4.length : Int) + 1) : Int).toNat ≤ 281474976710656 then (foghornref19_Generator.l1 k x0 x4 x5 t247 (List.replicate (wrap64 ((x4.length : Int) + 1) : Int).toNat 0) 0) else (none)) else (none))) else (some (x4, 0))
def foghornref19_Generator.l1 : Nat → Int → List Int → Int → Int → List Int → Int → Option (List Int × Int)
  | 0, _, _, _, _, _, _ => none
  | k + 1, x0, x4, x5, x6, x7, x8 => if x8 < (x4.length : Int) then (if 0 ≤ (wrap64 (x8 + 1)) then (if (wrap64 (x8 + 1)) < (x7.length : Int) then (if 0 ≤ x8 then ((some (x7.set ((wrap64 (x8 + 1)) : Int).toNat (Go.bits .xor .u8 (rd x7 (wrap64 (x8 + 1))) (rd x4 x8)) : List Int)).bind fun y253 => (if x8 < (x7.length : Int) then ((foghornref19_Times.f k (rd x4 x8) x6).bind fun t256 => (foghornref19_Generator.l1 k x0 x4 x5 x6 (y253.set (x8 : Int).toNat (Go.bits .xor .u8 (rd y253 x8) t256)) (wrap64 (x8 + 1)))) else (none))) else (none)) else (none)) else (none)) else (foghornref19_Generator.l0 k x0 x7 (wrap64 (x5 + 1)))
end
def foghornref19_Generator.f (k : Nat) (a0 : Int) : Option (List Int × Int) := (foghornref19_Check.f (wrap64 (a0 + 1)) a0).bind fun t243 => (if t243 = 0 then (foghornref19_Generator.l0 k a0 (([1] : List Int)) 0) else (some (([] : List Int), 1)))
theorem foghornref19_Generator.mono_l : ∀ k, (∀ y0 y1 y2, LeO (foghornref19_Generator.l0 k y0 y1 y2) (foghornref19_Generator.l0 (k + 1) y0 y1 y2)) ∧ (∀ y0 y1 y2 y3 y4 y5, LeO (foghornref19_Generator.l1 k y0 y1 y2 y3 y4 y5) (foghornref19_Generator.l1 (k + 1) y0 y1 y2 y3 y4 y5))
  | 0 => ⟨fun _ _ _ r h => by simp [foghornref19_Generator.l0] at h, fun _ _ _ _ _ _ r h => by simp [foghornref19_Generator.l1] at h⟩
  | k + 1 => by
    obtain ⟨ih0, ih1⟩ := foghornref19_Generator.mono_l k
    refine ⟨?_, ?_⟩
    · intro y0 y1 y2
      unfold foghornref19_Generator.l0
      repeat' first
      | (with_reducible exact ih0 _ _ _)
      | (with_reducible exact ih1 _ _ _ _ _ _)
      | (with_reducible exact foghornref19_Power.mono _ _)
      | (with_reducible exact foghornref19_Times.mono _ _ _)
      | (with_reducible exact LeO.refl _)
      | (with_reducible exact LeO.none _)
      | (with_reducible refine LeO.ite ?_ ?_)
      | (with_reducible refine LeO.bind ?_ (fun _ => ?_))
      | exact ih0 _ _ _
      | exact ih1 _ _ _ _ _ _
      | exact foghornref19_Power.mono _ _
      | exact foghornref19_Times.mono _ _ _
      | exact LeO.none _
      | refine LeO.ite ?_ ?_
      | refine LeO.bind ?_ (fun _ => ?_)
    · intro y0 y1 y2 y3 y4 y5
      unfold foghornref19_Generator.l1
      repeat' first
      | (with_reducible exact ih0 _ _ _)
      | (with_reducible exact ih1 _ _ _ _ _ _)
      | (with_reducible exact foghornref19_Power.mono _ _)
      | (with_reducible exact foghornref19_Times.mono _ _ _)
      | (with_reducible exact LeO.refl _)
      | (with_reducible exact LeO.none _)
      | (with_reducible refine LeO.ite ?_ ?_)
      | (with_reducible refine LeO.bind ?_ (fun _ => ?_))
      | exact ih0 _ _ _
      | exact ih1 _ _ _ _ _ _
      | exact foghornref19_Power.mono _ _
      | exact foghornref19_Times.mono _ _ _
      | exact LeO.none _
      | refine LeO.ite ?_ ?_
      | refine LeO.bind ?_ (fun _ => ?_)
theorem foghornref19_Generator.mono : ∀ a0 k, LeO (foghornref19_Generator.f k a0) (foghornref19_Generator.f (k + 1) a0) := by
  intro a0 k
  obtain ⟨ih0, ih1⟩ := foghornref19_Generator.mono_l k
  unfold foghornref19_Generator.f
  repeat' first
      | (with_reducible exact ih0 _ _ _)
      | (with_reducible exact ih1 _ _ _ _ _ _)
      | (with_reducible exact foghornref19_Power.mono _ _)
      | (with_reducible exact foghornref19_Times.mono _ _ _)
      | (with_reducible exact LeO.refl _)
      | (with_reducible exact LeO.none _)
      | (with_reducible refine LeO.ite ?_ ?_)
      | (with_reducible refine LeO.bind ?_ (fun _ => ?_))
      | exact ih0 _ _ _
      | exact ih1 _ _ _ _ _ _
      | exact foghornref19_Power.mono _ _
      | exact foghornref19_Times.mono _ _ _
      | exact LeO.none _
      | refine LeO.ite ?_ ?_
      | refine LeO.bind ?_ (fun _ => ?_)
def foghornref19_Generator.T12 : Bool × List (List Nat × List Nat) := (true, [([], []), ([], []), ([1], [1]), ([], []), ([], []), ([4], [4]), ([3, 5], [3, 5]), ([6], [6]), ([], []), ([], []), ([8, 9], [8, 9]), ([10], [10]), ([7, 11], [7, 11]), ([0, 2, 0, 1, 2, 3, 4, 5, 6, 7, 8, 9, 10, 11, 12], [0, 2]), ([13, 12, 0, 1, 2, 3, 4, 5, 6, 7, 8, 9, 10, 11, 12], [12, 13])])
def foghornref19_Generator.B12 : List Nat := [0, 0, 2, 0, 0, 16, 56, 120, 0, 0, 768, 1792, 4088, 8191, 16383]
theorem foghornref19_Generator.tab12 : rtab .any (opsOf Try.f67 12) = foghornref19_Generator.T12 := by kernel_rfl
theorem foghornref19_Generator.bits12 : waitsOk foghornref19_Generator.T12.2 foghornref19_Generator.B12 = true := by kernel_rfl
def foghornref19_Generator.T13 : Bool × List (List Nat × List Nat) := (true, [([], []), ([], []), ([], []), ([], []), ([2, 3], [2, 3]), ([4], [4]), ([], []), ([], []), ([6, 7], [6, 7]), ([8], [8]), ([], []), ([9, 10], [9, 10]), ([5, 11], [5, 11]), ([0, 1, 0, 1, 2, 3, 4, 5, 6, 7, 8, 9, 10, 11, 12], [0, 1]), ([13, 12, 11, 0, 1, 2, 3, 4, 5, 6, 7, 8, 9, 10, 11, 12], [12, 13])])
def foghornref19_Generator.B13 : List Nat := [0, 0, 0, 0, 12, 28, 0, 0, 192, 448, 0, 1984, 4092, 8191, 16383]
theorem foghornref19_Generator.tab13 : rtab .any (opsOf Try.f67 13) = foghornref19_Generator.T13 := by kernel_rfl
theorem foghornref19_Generator.bits13 : waitsOk foghornref19_Generator.T13.2 foghornref19_Generator.B13 = true := by kernel_rfl

/-! ### foghornref19_Encode: function 24 -/
mutual
def foghornref19_Encode.j0 : Nat → ByteArray → Int → Bool → Option (ByteArray × Int)
  | 0, _, _, _ => none
  | k + 1, x0, x1, x31 => if x31 = true then (some ((⟨#[]⟩ : ByteArray), 1)) else ((foghornref19_Generator.f k x1).bind fun bt259 => (if 0 ≤ (wrap64 ((x0.size : Int) + x1)) then (if (wrap64 ((x0.size : Int) + x1) : Int).toNat ≤ 281474976710656 then (foghornref19_Encode.l0 k x0 x1 bt259.1 (List.replicate (wrap64 ((x0.size : Int) + x1) : Int).toNat 0) 0) else (none)) else (none)))
def foghornref19_Encode.l0 : Nat → ByteArray → Int → List Int → List Int → Int → Option (ByteArray × Int)
  | 0, _, _, _, _, _ => none
  | k + 1, x0, x1, x6, x8, x9 => if x9 < (x0.size : Int) then (if 0 ≤ x9 then (if 0 ≤ (wrap64 ((wrap64 ((x8.length : Int) - 1)) - x9)) then (if (wrap64 ((wrap64 ((x8.length : Int) - 1)) - x9)) < (x8.length : Int) then (foghornref19_Encode.l0 k x0 x1 x6 (x8.set ((wrap64 ((wrap64 ((x8.length : Int) - 1)) - x9)) : Int).toNat (bt x0 x9)) (wrap64 (x9 + 1))) else (none)) else (none)) else (none)) else (foghornref19_Encode.l1 k x0 x1 x6 x8 (wrap64 ((x8.length : Int) - 1)))
def foghornref19_Encode.l1 : Nat → ByteArray → Int → List Int → List Int → Int → Option (ByteArray × Int)
  | 0, _, _, _, _, _ => none
  | k + 1, x0, x1, x6, x8, x10 => if x10 ≥ x1 then (if 0 ≤ x10 then (if x10 < (x8.length : Int) then (foghornref19_Encode.l2 k x0 x1 x6 x8 x10 (rd x8 x10) 0) else (none)) else (none)) else (if x0.size ≤ 9223372036854775807 then (foghornref19_Encode.l3 k x8 (bytesOf x0) (wrap64 (x1 - 1))) else (none))
def foghornref19_Encode.l2 : Nat → ByteArray → Int → List Int → List Int → Int → Int → Int → Option (ByteArray × Int)
  | 0, _, _, _, _, _, _, _ => none
  | k + 1, x0, x1, x6, x8, x10, x11, x12 => if x12 < (x6.length : Int) then (if 0 ≤ (wrap64 ((wrap64 (x10 - x1)) + x12)) then (if (wrap64 ((wrap64 (x10 - x1)) + x12)) < (x8.length : Int) then (if 0 ≤ x12 then ((foghornref19_Times.f k x11 (rd x6 x12)).bind fun t270 => (foghornref19_Encode.l2 k x0 x1 x6 (x8.set ((wrap64 ((wrap64 (x10 - x1)) + x12)) : Int).toNat (Go.bits .xor .u8 (rd x8 (wrap64 ((wrap64 (x10 - x1)) + x12))) t270)) x10 x11 (wrap64 (x12 + 1)))) else (none)) else (none)) else (none)) else (foghornref19_Encode.l1 k x0 x1 x6 x8 (wrap64 (x10 - 1)))
def foghornref19_Encode.l3 : Nat → List Int → List Int → Int → Option (ByteArray × Int)
  | 0, _, _, _ => none
  | k + 1, x8, x13, x14 => if x14 ≥ 0 then (if 0 ≤ x14 then (if x14 < (x8.length : Int) then (if x13.length < 140737488355328 then (foghornref19_Encode.l3 k x8 (x13 ++ [rd x8 x14]) (wrap64 (x14 - 1))) else (none)) else (none)) else (none)) else (some (strOfNums x13, 0))
end
def foghornref19_Encode.f (k : Nat) (a0 : ByteArray) (a1 : Int) : Option (ByteArray × Int) := if (a0.size : Int) < 1 then (foghornref19_Encode.j0 k a0 a1 true) else (if (a0.size : Int) > 255 then (foghornref19_Encode.j0 k a0 a1 true) else ((foghornref19_Check.f (wrap64 ((a0.size : Int) + a1)) a1).bind fun t258 => (foghornref19_Encode.j0 k a0 a1 (t258 != 0))))
theorem foghornref19_Encode.mono_l : ∀ k, (∀ y0 y1 y2, LeO (foghornref19_Encode.j0 k y0 y1 y2) (foghornref19_Encode.j0 (k + 1) y0 y1 y2)) ∧ (∀ y0 y1 y2 y3 y4, LeO (foghornref19_Encode.l0 k y0 y1 y2 y3 y4) (foghornref19_Encode.l0 (k + 1) y0 y1 y2 y3 y4)) ∧ (∀ y0 y1 y2 y3 y4, LeO (foghornref19_Encode.l1 k y0 y1 y2 y3 y4) (foghornref19_Encode.l1 (k + 1) y0 y1 y2 y3 y4)) ∧ (∀ y0 y1 y2 y3 y4 y5 y6, LeO (foghornref19_Encode.l2 k y0 y1 y2 y3 y4 y5 y6) (foghornref19_Encode.l2 (k + 1) y0 y1 y2 y3 y4 y5 y6)) ∧ (∀ y0 y1 y2, LeO (foghornref19_Encode.l3 k y0 y1 y2) (foghornref19_Encode.l3 (k + 1) y0 y1 y2))
  | 0 => ⟨fun _ _ _ r h => by simp [foghornref19_Encode.j0] at h, fun _ _ _ _ _ r h => by simp [foghornref19_Encode.l0] at h, fun _ _ _ _ _ r h => by simp [foghornref19_Encode.l1] at h, fun _ _ _ _ _ _ _ r h => by simp [foghornref19_Encode.l2] at h, fun _ _ _ r h => by simp [foghornref19_Encode.l3] at h⟩
  | k + 1 => by
    obtain ⟨ih0, ih1, ih2, ih3, ih4⟩ := foghornref19_Encode.mono_l k
    refine ⟨?_, ?_, ?_, ?_, ?_⟩
    · intro y0 y1 y2
      unfold foghornref19_Encode.j0
      repeat' first
      | (with_reducible exact ih0 _ _ _)
      | (with_reducible exact ih1 _ _ _ _ _)
      | (with_reducible exact ih2 _ _ _ _ _)
      | (with_reducible exact ih3 _ _ _ _ _ _ _)
      | (with_reducible exact ih4 _ _ _)
      | (with_reducible exact foghornref19_Generator.mono _ _)
      | (with_reducible exact foghornref19_Times.mono _ _ _)
      | (with_reducible exact LeO.refl _)
      | (with_reducible exact LeO.none _)
      | (with_reducible refine LeO.ite ?_ ?_)
      | (with_reducible refine LeO.bind ?_ (fun _ => ?_))
      | exact ih0 _ _ _
      | exact ih1 _ _ _ _ _
      | exact ih2 _ _ _ _ _
      | exact ih3 _ _ _ _ _ _ _
      | exact ih4 _ _ _
      | exact foghornref19_Generator.mono _ _
      | exact foghornref19_Times.mono _ _ _
      | exact LeO.none _
      | refine LeO.ite ?_ ?_
      | refine LeO.bind ?_ (fun _ => ?_)
    · intro y0 y1 y2 y3 y4
      unfold foghornref19_Encode.l0
      repeat' first
      | (with_reducible exact ih0 _ _ _)
      | (with_reducible exact ih1 _ _ _ _ _)
      | (with_reducible exact ih2 _ _ _ _ _)
      | (with_reducible exact ih3 _ _ _ _ _ _ _)
      | (with_reducible exact ih4 _ _ _)
      | (with_reducible exact foghornref19_Generator.mono _ _)
      | (with_reducible exact foghornref19_Times.mono _ _ _)
      | (with_reducible exact LeO.refl _)
      | (with_reducible exact LeO.none _)
      | (with_reducible refine LeO.ite ?_ ?_)
      | (with_reducible refine LeO.bind ?_ (fun _ => ?_))
      | exact ih0 _ _ _
      | exact ih1 _ _ _ _ _
      | exact ih2 _ _ _ _ _
      | exact ih3 _ _ _ _ _ _ _
      | exact ih4 _ _ _
      | exact foghornref19_Generator.mono _ _
      | exact foghornref19_Times.mono _ _ _
      | exact LeO.none _
      | refine LeO.ite ?_ ?_
      | refine LeO.bind ?_ (fun _ => ?_)
    · intro y0 y1 y2 y3 y4
      unfold foghornref19_Encode.l1
      repeat' first
      | (with_reducible exact ih0 _ _ _)
      | (with_reducible exact ih1 _ _ _ _ _)
      | (with_reducible exact ih2 _ _ _ _ _)
      | (with_reducible exact ih3 _ _ _ _ _ _ _)
      | (with_reducible exact ih4 _ _ _)
      | (with_reducible exact foghornref19_Generator.mono _ _)
      | (with_reducible exact foghornref19_Times.mono _ _ _)
      | (with_reducible exact LeO.refl _)
      | (with_reducible exact LeO.none _)
      | (with_reducible refine LeO.ite ?_ ?_)
      | (with_reducible refine LeO.bind ?_ (fun _ => ?_))
      | exact ih0 _ _ _
      | exact ih1 _ _ _ _ _
      | exact ih2 _ _ _ _ _
      | exact ih3 _ _ _ _ _ _ _
      | exact ih4 _ _ _
      | exact foghornref19_Generator.mono _ _
      | exact foghornref19_Times.mono _ _ _
      | exact LeO.none _
      | refine LeO.ite ?_ ?_
      | refine LeO.bind ?_ (fun _ => ?_)
    · intro y0 y1 y2 y3 y4 y5 y6
      unfold foghornref19_Encode.l2
      repeat' first
      | (with_reducible exact ih0 _ _ _)
      | (with_reducible exact ih1 _ _ _ _ _)
      | (with_reducible exact ih2 _ _ _ _ _)
      | (with_reducible exact ih3 _ _ _ _ _ _ _)
      | (with_reducible exact ih4 _ _ _)
      | (with_reducible exact foghornref19_Generator.mono _ _)
      | (with_reducible exact foghornref19_Times.mono _ _ _)
      | (with_reducible exact LeO.refl _)
      | (with_reducible exact LeO.none _)
      | (with_reducible refine LeO.ite ?_ ?_)
      | (with_reducible refine LeO.bind ?_ (fun _ => ?_))
      | exact ih0 _ _ _
      | exact ih1 _ _ _ _ _
      | exact ih2 _ _ _ _ _
      | exact ih3 _ _ _ _ _ _ _
      | exact ih4 _ _ _
      | exact foghornref19_Generator.mono _ _
      | exact foghornref19_Times.mono _ _ _
      | exact LeO.none _
      | refine LeO.ite ?_ ?_
      | refine LeO.bind ?_ (fun _ => ?_)
    · intro y0 y1 y2
      unfold foghornref19_Encode.l3
      repeat' first
      | (with_reducible exact ih0 _ _ _)
      | (with_reducible exact ih1 _ _ _ _ _)
      | (with_reducible exact ih2 _ _ _ _ _)
      | (with_reducible exact ih3 _ _ _ _ _ _ _)
      | (with_reducible exact ih4 _ _ _)
      | (with_reducible exact foghornref19_Generator.mono _ _)
      | (with_reducible exact foghornref19_Times.mono _ _ _)
      | (with_reducible exact LeO.refl _)
      | (with_reducible exact LeO.none _)
      | (with_reducible refine LeO.ite ?_ ?_)
      | (with_reducible refine LeO.bind ?_ (fun _ => ?_))
      | exact ih0 _ _ _
      | exact ih1 _ _ _ _ _
      | exact ih2 _ _ _ _ _
      | exact ih3 _ _ _ _ _ _ _
      | exact ih4 _ _ _
      | exact foghornref19_Generator.mono _ _
      | exact foghornref19_Times.mono _ _ _
      | exact LeO.none _
      | refine LeO.ite ?_ ?_
      | refine LeO.bind ?_ (fun _ => ?_)
theorem foghornref19_Encode.mono : ∀ a0 a1 k, LeO (foghornref19_Encode.f k a0 a1) (foghornref19_Encode.f (k + 1) a0 a1) := by
  intro a0 a1 k
  obtain ⟨ih0, ih1, ih2, ih3, ih4⟩ := foghornref19_Encode.mono_l k
  unfold foghornref19_Encode.f
  repeat' first
      | (with_reducible exact ih0 _ _ _)
      | (with_reducible exact ih1 _ _ _ _ _)
      | (with_reducible exact ih2 _ _ _ _ _)
      | (with_reducible exact ih3 _ _ _ _ _ _ _)
      | (with_reducible exact ih4 _ _ _)
      | (with_reducible exact foghornref19_Generator.mono _ _)
      | (with_reducible exact foghornref19_Times.mono _ _ _)
      | (with_reducible exact LeO.refl _)
      | (with_reducible exact LeO.none _)
      | (with_reducible refine LeO.ite ?_ ?_)
      | (with_reducible refine LeO.bind ?_ (fun _ => ?_))
      | exact ih0 _ _ _
      | exact ih1 _ _ _ _ _
      | exact ih2 _ _ _ _ _
      | exact ih3 _ _ _ _ _ _ _
      | exact ih4 _ _ _
      | exact foghornref19_Generator.mono _ _
      | exact foghornref19_Times.mono _ _ _
      | exact LeO.none _
      | refine LeO.ite ?_ ?_
      | refine LeO.bind ?_ (fun _ => ?_)
def foghornref19_Encode.T16 : Bool × List (List Nat × List Nat) := (true, [([], []), ([], []), ([], []), ([1, 2], [1, 2]), ([], []), ([3, 4], [3, 4]), ([], []), ([], []), ([], []), ([7, 8], [7, 8]), ([], []), ([9, 10], [9, 10]), ([6, 11], [6, 11]), ([12], [12]), ([], []), ([], []), ([], []), ([15, 16], [15, 16]), ([17], [17]), ([14, 18], [14, 18]), ([13, 19], [13, 19]), ([0, 5, 0, 1, 2, 3, 4, 5, 6, 7, 8, 9, 10, 11, 12, 13, 14, 15, 16, 17, 18, 19, 20], [0, 5]), ([21, 20, 19, 0, 1, 2, 3, 4, 5, 6, 7, 8, 9, 10, 11, 12, 13, 14, 15, 16, 17, 18, 19, 20], [20, 21])])
def foghornref19_Encode.B16 : List Nat := [0, 0, 0, 6, 0, 30, 0, 0, 0, 384, 0, 1920, 4032, 8128, 0, 0, 0, 98304, 229376, 507904, 1048512, 2097151, 4194303]
theorem foghornref19_Encode.tab16 : rtab .any (opsOf Try.f24 16) = foghornref19_Encode.T16 := by kernel_rfl
theorem foghornref19_Encode.bits16 : waitsOk foghornref19_Encode.T16.2 foghornref19_Encode.B16 = true := by kernel_rfl

/-! ### foghornref19_At: function 69 -/
def foghornref19_At.l0 : Nat → ByteArray → Int → Int → Int → Int → Option (Int)
  | 0, _, _, _, _, _ => none
  | k + 1, x0, x1, x5, x6, x7 => if x7 ≥ 0 then (if 0 ≤ x7 then (if x7 < (x0.size : Int) then ((foghornref19_Times.f k (bt x0 x7) x6).bind fun t279 => ((foghornref19_Times.f k x6 x1).bind fun t280 => (foghornref19_At.l0 k x0 x1 (Go.bits .xor .u8 x5 t279) t280 (wrap64 (x7 - 1))))) else (none)) else (none)) else (some x5)
def foghornref19_At.f (k : Nat) (a0 : ByteArray) (a1 : Int) : Option (Int) := foghornref19_At.l0 k a0 a1 0 1 (wrap64 ((a0.size : Int) - 1))
theorem foghornref19_At.mono_l : ∀ k, (∀ y0 y1 y2 y3 y4, LeO (foghornref19_At.l0 k y0 y1 y2 y3 y4) (foghornref19_At.l0 (k + 1) y0 y1 y2 y3 y4))
  | 0 => fun _ _ _ _ _ r h => by simp [foghornref19_At.l0] at h
  | k + 1 => by
    have ih0 := foghornref19_At.mono_l k
    · intro y0 y1 y2 y3 y4
      unfold foghornref19_At.l0
      repeat' first
      | (with_reducible exact ih0 _ _ _ _ _)
      | (with_reducible exact foghornref19_Times.mono _ _ _)
      | (with_reducible exact LeO.refl _)
      | (with_reducible exact LeO.none _)
      | (with_reducible refine LeO.ite ?_ ?_)
      | (with_reducible refine LeO.bind ?_ (fun _ => ?_))
      | exact ih0 _ _ _ _ _
      | exact foghornref19_Times.mono _ _ _
      | exact LeO.none _
      | refine LeO.ite ?_ ?_
      | refine LeO.bind ?_ (fun _ => ?_)
theorem foghornref19_At.mono : ∀ a0 a1 k, LeO (foghornref19_At.f k a0 a1) (foghornref19_At.f (k + 1) a0 a1) := by
  intro a0 a1 k
  have ih0 := foghornref19_At.mono_l k
  unfold foghornref19_At.f
  repeat' first
      | (with_reducible exact ih0 _ _ _ _ _)
      | (with_reducible exact foghornref19_Times.mono _ _ _)
      | (with_reducible exact LeO.refl _)
      | (with_reducible exact LeO.none _)
      | (with_reducible refine LeO.ite ?_ ?_)
      | (with_reducible refine LeO.bind ?_ (fun _ => ?_))
      | exact ih0 _ _ _ _ _
      | exact foghornref19_Times.mono _ _ _
      | exact LeO.none _
      | refine LeO.ite ?_ ?_
      | refine LeO.bind ?_ (fun _ => ?_)

/-! ### foghornref19_Syndromes: function 25 -/
def foghornref19_Syndromes.l0 : Nat → ByteArray → Int → List Int → Int → Option (List Int × Int)
  | 0, _, _, _, _ => none
  | k + 1, x0, x1, x6, x7 => if x7 < x1 then ((foghornref19_Power.f k x7).bind fun t282 => ((foghornref19_At.f k x0 t282).bind fun t283 => (if x6.length < 140737488355328 then (foghornref19_Syndromes.l0 k x0 x1 (x6 ++ [t283]) (wrap64 (x7 + 1))) else (none)))) else (some (x6, 0))
def foghornref19_Syndromes.f (k : Nat) (a0 : ByteArray) (a1 : Int) : Option (List Int × Int) := (foghornref19_Check.f (a0.size : Int) a1).bind fun t281 => (if t281 = 0 then (foghornref19_Syndromes.l0 k a0 a1 ([] : List Int) 0) else (some (([] : List Int), 1)))
theorem foghornref19_Syndromes.mono_l : ∀ k, (∀ y0 y1 y2 y3, LeO (foghornref19_Syndromes.l0 k y0 y1 y2 y3) (foghornref19_Syndromes.l0 (k + 1) y0 y1 y2 y3))
  | 0 => fun _ _ _ _ r h => by simp [foghornref19_Syndromes.l0] at h
  | k + 1 => by
    have ih0 := foghornref19_Syndromes.mono_l k
    · intro y0 y1 y2 y3
      unfold foghornref19_Syndromes.l0
      repeat' first
      | (with_reducible exact ih0 _ _ _ _)
      | (with_reducible exact foghornref19_At.mono _ _ _)
      | (with_reducible exact foghornref19_Power.mono _ _)
      | (with_reducible exact LeO.refl _)
      | (with_reducible exact LeO.none _)
      | (with_reducible refine LeO.ite ?_ ?_)
      | (with_reducible refine LeO.bind ?_ (fun _ => ?_))
      | exact ih0 _ _ _ _
      | exact foghornref19_At.mono _ _ _
      | exact foghornref19_Power.mono _ _
      | exact LeO.none _
      | refine LeO.ite ?_ ?_
      | refine LeO.bind ?_ (fun _ => ?_)
theorem foghornref19_Syndromes.mono : ∀ a0 a1 k, LeO (foghornref19_Syndromes.f k a0 a1) (foghornref19_Syndromes.f (k + 1) a0 a1) := by
  intro a0 a1 k
  have ih0 := foghornref19_Syndromes.mono_l k
  unfold foghornref19_Syndromes.f
  repeat' first
      | (with_reducible exact ih0 _ _ _ _)
      | (with_reducible exact foghornref19_At.mono _ _ _)
      | (with_reducible exact foghornref19_Power.mono _ _)
      | (with_reducible exact LeO.refl _)
      | (with_reducible exact LeO.none _)
      | (with_reducible refine LeO.ite ?_ ?_)
      | (with_reducible refine LeO.bind ?_ (fun _ => ?_))
      | exact ih0 _ _ _ _
      | exact foghornref19_At.mono _ _ _
      | exact foghornref19_Power.mono _ _
      | exact LeO.none _
      | refine LeO.ite ?_ ?_
      | refine LeO.bind ?_ (fun _ => ?_)

/-! ### foghornref19_Whole: function 26 -/
def foghornref19_Whole.l0 : Nat → List Int → Int → Option (Bool × Int)
  | 0, _, _ => none
  | k + 1, x6, x8 => if x8 < (x6.length : Int) then (if 0 ≤ x8 then (if (rd x6 x8) = 0 then (foghornref19_Whole.l0 k x6 (wrap64 (x8 + 1))) else (some (false, 0))) else (none)) else (some (true, 0))
def foghornref19_Whole.f (k : Nat) (a0 : ByteArray) (a1 : Int) : Option (Bool × Int) := (foghornref19_Syndromes.f k a0 a1).bind fun bt287 => (if bt287.2 = 0 then (foghornref19_Whole.l0 k bt287.1 0) else (some (false, bt287.2)))
theorem foghornref19_Whole.mono_l : ∀ k, (∀ y0 y1, LeO (foghornref19_Whole.l0 k y0 y1) (foghornref19_Whole.l0 (k + 1) y0 y1))
  | 0 => fun _ _ r h => by simp [foghornref19_Whole.l0] at h
  | k + 1 => by
    have ih0 := foghornref19_Whole.mono_l k
    · intro y0 y1
      unfold foghornref19_Whole.l0
      repeat' first
      | (with_reducible exact ih0 _ _)
      | (with_reducible exact foghornref19_Syndromes.mono _ _ _)
      | (with_reducible exact LeO.refl _)
      | (with_reducible exact LeO.none _)
      | (with_reducible refine LeO.ite ?_ ?_)
      | (with_reducible refine LeO.bind ?_ (fun _ => ?_))
      | exact ih0 _ _
      | exact foghornref19_Syndromes.mono _ _ _
      | exact LeO.none _
      | refine LeO.ite ?_ ?_
      | refine LeO.bind ?_ (fun _ => ?_)
theorem foghornref19_Whole.mono : ∀ a0 a1 k, LeO (foghornref19_Whole.f k a0 a1) (foghornref19_Whole.f (k + 1) a0 a1) := by
  intro a0 a1 k
  have ih0 := foghornref19_Whole.mono_l k
  unfold foghornref19_Whole.f
  repeat' first
      | (with_reducible exact ih0 _ _)
      | (with_reducible exact foghornref19_Syndromes.mono _ _ _)
      | (with_reducible exact LeO.refl _)
      | (with_reducible exact LeO.none _)
      | (with_reducible refine LeO.ite ?_ ?_)
      | (with_reducible refine LeO.bind ?_ (fun _ => ?_))
      | exact ih0 _ _
      | exact foghornref19_Syndromes.mono _ _ _
      | exact LeO.none _
      | refine LeO.ite ?_ ?_
      | refine LeO.bind ?_ (fun _ => ?_)

/-! ### reed_Data: function 27 -/
def reed_Data.f (k : Nat) (a0 : ByteArray) (a1 : Int) : Option (ByteArray × Int) := (reed_Whole.f k a0 a1).bind fun bt292 => (if bt292.2 = 0 then (if bt292.1 = true then (if 0 ≤ (wrap64 ((a0.size : Int) - a1)) then (if (wrap64 ((a0.size : Int) - a1)) ≤ (a0.size : Int) then (some (a0.extract 0 ((wrap64 ((a0.size : Int) - a1)) : Int).toNat, 0)) else (none)) else (none)) else (some ((⟨#[]⟩ : ByteArray), 6))) else (some ((⟨#[]⟩ : ByteArray), bt292.2)))
theorem reed_Data.mono : ∀ a0 a1 k, LeO (reed_Data.f k a0 a1) (reed_Data.f (k + 1) a0 a1) := by
  intro a0 a1 k
  unfold reed_Data.f
  repeat' first
      | (with_reducible exact reed_Whole.mono _ _ _)
      | (with_reducible exact LeO.refl _)
      | (with_reducible exact LeO.none _)
      | (with_reducible refine LeO.ite ?_ ?_)
      | (with_reducible refine LeO.bind ?_ (fun _ => ?_))
      | exact reed_Whole.mono _ _ _
      | exact LeO.none _
      | refine LeO.ite ?_ ?_
      | refine LeO.bind ?_ (fun _ => ?_)

/-! ### foghornref19_Data: function 28 -/
def foghornref19_Data.f (k : Nat) (a0 : ByteArray) (a1 : Int) : Option (ByteArray × Int) := (foghornref19_Whole.f k a0 a1).bind fun bt294 => (if bt294.2 = 0 then (if bt294.1 = true then (if 0 ≤ (wrap64 ((a0.size : Int) - a1)) then (if (wrap64 ((a0.size : Int) - a1)) ≤ (a0.size : Int) then (some (a0.extract 0 ((wrap64 ((a0.size : Int) - a1)) : Int).toNat, 0)) else (none)) else (none)) else (some ((⟨#[]⟩ : ByteArray), 6))) else (some ((⟨#[]⟩ : ByteArray), bt294.2)))
theorem foghornref19_Data.mono : ∀ a0 a1 k, LeO (foghornref19_Data.f k a0 a1) (foghornref19_Data.f (k + 1) a0 a1) := by
  intro a0 a1 k
  unfold foghornref19_Data.f
  repeat' first
      | (with_reducible exact foghornref19_Whole.mono _ _ _)
      | (with_reducible exact LeO.refl _)
      | (with_reducible exact LeO.none _)
      | (with_reducible refine LeO.ite ?_ ?_)
      | (with_reducible refine LeO.bind ?_ (fun _ => ?_))
      | exact foghornref19_Whole.mono _ _ _
      | exact LeO.none _
      | refine LeO.ite ?_ ?_
      | refine LeO.bind ?_ (fun _ => ?_)

/-! ### foghornlaw19_sameBytes: function 29 -/
def foghornlaw19_sameBytes.l0 : Nat → List Int → List Int → Int → Option (Bool)
  | 0, _, _, _ => none
  | k + 1, x0, x1, x5 => if x5 < (x0.length : Int) then (if 0 ≤ x5 then (if x5 < (x1.length : Int) then (if (rd x0 x5) = (rd x1 x5) then (foghornlaw19_sameBytes.l0 k x0 x1 (wrap64 (x5 + 1))) else (some false)) else (none)) else (none)) else (some true)
def foghornlaw19_sameBytes.f (k : Nat) (l0 : List Int) (l1 : List Int) : Option (Bool) := if (l0.length : Int) = (l1.length : Int) then (foghornlaw19_sameBytes.l0 k l0 l1 0) else (some false)
theorem foghornlaw19_sameBytes.mono_l : ∀ k, (∀ y0 y1 y2, LeO (foghornlaw19_sameBytes.l0 k y0 y1 y2) (foghornlaw19_sameBytes.l0 (k + 1) y0 y1 y2))
  | 0 => fun _ _ _ r h => by simp [foghornlaw19_sameBytes.l0] at h
  | k + 1 => by
    have ih0 := foghornlaw19_sameBytes.mono_l k
    · intro y0 y1 y2
      unfold foghornlaw19_sameBytes.l0
      repeat' first
      | (with_reducible exact ih0 _ _ _)
      | (with_reducible exact LeO.refl _)
      | (with_reducible exact LeO.none _)
      | (with_reducible refine LeO.ite ?_ ?_)
      | (with_reducible refine LeO.bind ?_ (fun _ => ?_))
      | exact ih0 _ _ _
      | exact LeO.none _
      | refine LeO.ite ?_ ?_
      | refine LeO.bind ?_ (fun _ => ?_)
theorem foghornlaw19_sameBytes.mono : ∀ a0 a1 k, LeO (foghornlaw19_sameBytes.f k a0 a1) (foghornlaw19_sameBytes.f (k + 1) a0 a1) := by
  intro a0 a1 k
  have ih0 := foghornlaw19_sameBytes.mono_l k
  unfold foghornlaw19_sameBytes.f
  repeat' first
      | (with_reducible exact ih0 _ _ _)
      | (with_reducible exact LeO.refl _)
      | (with_reducible exact LeO.none _)
      | (with_reducible refine LeO.ite ?_ ?_)
      | (with_reducible refine LeO.bind ?_ (fun _ => ?_))
      | exact ih0 _ _ _
      | exact LeO.none _
      | refine LeO.ite ?_ ?_
      | refine LeO.bind ?_ (fun _ => ?_)

/-! ### foghornref19_Apart: function 30 -/
def foghornref19_Apart.l0 : Nat → ByteArray → ByteArray → Int → Int → Option (Int × Int)
  | 0, _, _, _, _ => none
  | k + 1, x0, x1, x6, x7 => if x7 < (x0.size : Int) then (if 0 ≤ x7 then (if x7 < (x1.size : Int) then (if (bt x0 x7) = (bt x1 x7) then (foghornref19_Apart.l0 k x0 x1 x6 (wrap64 (x7 + 1))) else (foghornref19_Apart.l0 k x0 x1 (wrap64 (x6 + 1)) (wrap64 (x7 + 1)))) else (none)) else (none)) else (some (x6, 0))
def foghornref19_Apart.f (k : Nat) (a0 : ByteArray) (a1 : ByteArray) : Option (Int × Int) := if (a0.size : Int) = (a1.size : Int) then (foghornref19_Apart.l0 k a0 a1 0 0) else (some (0, 1))
theorem foghornref19_Apart.mono_l : ∀ k, (∀ y0 y1 y2 y3, LeO (foghornref19_Apart.l0 k y0 y1 y2 y3) (foghornref19_Apart.l0 (k + 1) y0 y1 y2 y3))
  | 0 => fun _ _ _ _ r h => by simp [foghornref19_Apart.l0] at h
  | k + 1 => by
    have ih0 := foghornref19_Apart.mono_l k
    · intro y0 y1 y2 y3
      unfold foghornref19_Apart.l0
      repeat' first
      | (with_reducible exact ih0 _ _ _ _)
      | (with_reducible exact LeO.refl _)
      | (with_reducible exact LeO.none _)
      | (with_reducible refine LeO.ite ?_ ?_)
      | (with_reducible refine LeO.bind ?_ (fun _ => ?_))
      | exact ih0 _ _ _ _
      | exact LeO.none _
      | refine LeO.ite ?_ ?_
      | refine LeO.bind ?_ (fun _ => ?_)
theorem foghornref19_Apart.mono : ∀ a0 a1 k, LeO (foghornref19_Apart.f k a0 a1) (foghornref19_Apart.f (k + 1) a0 a1) := by
  intro a0 a1 k
  have ih0 := foghornref19_Apart.mono_l k
  unfold foghornref19_Apart.f
  repeat' first
      | (with_reducible exact ih0 _ _ _ _)
      | (with_reducible exact LeO.refl _)
      | (with_reducible exact LeO.none _)
      | (with_reducible refine LeO.ite ?_ ?_)
      | (with_reducible refine LeO.bind ?_ (fun _ => ?_))
      | exact ih0 _ _ _ _
      | exact LeO.none _
      | refine LeO.ite ?_ ?_
      | refine LeO.bind ?_ (fun _ => ?_)

/-! ### reed_Words: function 31 -/
mutual
def reed_Words.j0 : Nat → ByteArray → Int → Int → Bool → Option (List ByteArray × Int)
  | 0, _, _, _, _ => none
  | k + 1, x0, x1, x2, x20 => if x20 = true then (some (([] : List ByteArray), 1)) else (reed_Words.l0 k x0 x1 x2 ([] : List ByteArray))
def reed_Words.l0 : Nat → ByteArray → Int → Int → List ByteArray → Option (List ByteArray × Int)
  | 0, _, _, _, _ => none
  | k + 1, x0, x1, x2, x8 => if x0.toList = ([] : List UInt8) then (some (x8, 0)) else (if 0 ≤ (mn (wrap64 (x1 - x2)) (x0.size : Int)) then (if (mn (wrap64 (x1 - x2)) (x0.size : Int)) ≤ (x0.size : Int) then ((reed_Encode.f k (x0.extract 0 ((mn (wrap64 (x1 - x2)) (x0.size : Int)) : Int).toNat) x2).bind fun bt331 => (if x8.length < 8796093022208 then (reed_Words.l0 k (x0.extract ((mn (wrap64 (x1 - x2)) (x0.size : Int)) : Int).toNat x0.size) x1 x2 (x8 ++ [bt331.1])) else (none))) else (none)) else (none))
end
def reed_Words.f (k : Nat) (a0 : ByteArray) (a1 : Int) (a2 : Int) : Option (List ByteArray × Int) := (reed_Check.f a1 a2).bind fun t330 => (if t330 = 0 then (reed_Words.j0 k a0 a1 a2 (decide ((a0.size : Int) > 32768))) else (reed_Words.j0 k a0 a1 a2 true))
theorem reed_Words.mono_l : ∀ k, (∀ y0 y1 y2 y3, LeO (reed_Words.j0 k y0 y1 y2 y3) (reed_Words.j0 (k + 1) y0 y1 y2 y3)) ∧ (∀ y0 y1 y2 y3, LeO (reed_Words.l0 k y0 y1 y2 y3) (reed_Words.l0 (k + 1) y0 y1 y2 y3))
  | 0 => ⟨fun _ _ _ _ r h => by simp [reed_Words.j0] at h, fun _ _ _ _ r h => by simp [reed_Words.l0] at h⟩
  | k + 1 => by
    obtain ⟨ih0, ih1⟩ := reed_Words.mono_l k
    refine ⟨?_, ?_⟩
    · intro y0 y1 y2 y3
      unfold reed_Words.j0
      repeat' first
      | (with_reducible exact ih0 _ _ _ _)
      | (with_reducible exact ih1 _ _ _ _)
      | (with_reducible exact reed_Encode.mono _ _ _)
      | (with_reducible exact LeO.refl _)
      | (with_reducible exact LeO.none _)
      | (with_reducible refine LeO.ite ?_ ?_)
      | (with_reducible refine LeO.bind ?_ (fun _ => ?_))
      | exact ih0 _ _ _ _
      | exact ih1 _ _ _ _
      | exact reed_Encode.mono _ _ _
      | exact LeO.none _
      | refine LeO.ite ?_ ?_
      | refine LeO.bind ?_ (fun _ => ?_)
    · intro y0 y1 y2 y3
      unfold reed_Words.l0
      repeat' first
      | (with_reducible exact ih0 _ _ _ _)
      | (with_reducible exact ih1 _ _ _ _)
      | (with_reducible exact reed_Encode.mono _ _ _)
      | (with_reducible exact LeO.refl _)
      | (with_reducible exact LeO.none _)
      | (with_reducible refine LeO.ite ?_ ?_)
      | (with_reducible refine LeO.bind ?_ (fun _ => ?_))
      | exact ih0 _ _ _ _
      | exact ih1 _ _ _ _
      | exact reed_Encode.mono _ _ _
      | exact LeO.none _
      | refine LeO.ite ?_ ?_
      | refine LeO.bind ?_ (fun _ => ?_)
theorem reed_Words.mono : ∀ a0 a1 a2 k, LeO (reed_Words.f k a0 a1 a2) (reed_Words.f (k + 1) a0 a1 a2) := by
  intro a0 a1 a2 k
  obtain ⟨ih0, ih1⟩ := reed_Words.mono_l k
  unfold reed_Words.f
  repeat' first
      | (with_reducible exact ih0 _ _ _ _)
      | (with_reducible exact ih1 _ _ _ _)
      | (with_reducible exact reed_Encode.mono _ _ _)
      | (with_reducible exact LeO.refl _)
      | (with_reducible exact LeO.none _)
      | (with_reducible refine LeO.ite ?_ ?_)
      | (with_reducible refine LeO.bind ?_ (fun _ => ?_))
      | exact ih0 _ _ _ _
      | exact ih1 _ _ _ _
      | exact reed_Encode.mono _ _ _
      | exact LeO.none _
      | refine LeO.ite ?_ ?_
      | refine LeO.bind ?_ (fun _ => ?_)
def reed_Words.T7 : Bool × List (List Nat × List Nat) := (true, [([], []), ([], []), ([1], [1]), ([0, 2], [0, 2]), ([], []), ([], []), ([4, 5], [4, 5]), ([3, 3, 0, 1, 2, 3], [0, 3]), ([6, 7, 0, 1, 2, 3, 4, 5, 6, 7], [4, 6])])
def reed_Words.B7 : List Nat := [0, 0, 2, 7, 0, 0, 48, 15, 255]
theorem reed_Words.tab7 : rtab .any (opsOf Try.f31 7) = reed_Words.T7 := by kernel_rfl
theorem reed_Words.bits7 : waitsOk reed_Words.T7.2 reed_Words.B7 = true := by kernel_rfl

/-! ### reed_Message: function 32 -/
/-- What a word adds to the sum, and what is told of it. -/
def msgSum (r sum : Int) (s : ByteArray) : Int := wrap64 (sum + wrap64 ((s.size : Int) - r))
def msgTold (t sum : Int) : Int := if t = 0 then (if sum > 32768 then 1 else 0) else 1
def msgRun {α : Type} (step : α → ByteArray → Option (α × Int)) : α → List ByteArray → Option (α × Int)
  | a, [] => some (a, 0)
  | a, s :: r => (step a s).bind fun q => if q.2 = 0 then msgRun step q.1 r else some q
def msgStep1 (r : Int) (sum : Int) (s : ByteArray) : Option (Int × Int) := (reed_Check.f (s.size : Int) r).map fun t => (msgSum r sum s, msgTold t (msgSum r sum s))
def msgStep2 (k : Nat) (r : Int) (bs : List UInt8) (s : ByteArray) : Option (List UInt8 × Int) := (reed_Data.f k s r).bind fun p => if bs.length + p.1.size ≤ 140737488355328 then some (bs ++ p.1.data.toList, p.2) else none
def reed_Message.f (k : Nat) (l0 : List ByteArray) (a1 : Int) : Option (ByteArray × Int) :=
  if l0.length ≤ 140737488355328 then (reed_checks.f a1).bind fun b => if b = true then ((msgRun (msgStep1 a1) 0 l0).bind fun q1 => if q1.2 = 0 then ((msgRun (msgStep2 k a1) [] l0).bind fun q2 => if q2.2 = 0 then some ((⟨q2.1.toArray⟩ : ByteArray), 0) else some ((⟨#[]⟩ : ByteArray), q2.2)) else some ((⟨#[]⟩ : ByteArray), q1.2)) else some ((⟨#[]⟩ : ByteArray), 1) else none
theorem msgRun_mono {α : Type} {f g : α → ByteArray → Option (α × Int)} (h : ∀ a s, LeO (f a s) (g a s)) : ∀ (l : List ByteArray) (a : α), LeO (msgRun f a l) (msgRun g a l)
  | [], _ => LeO.refl _
  | s :: l, a => by
    unfold msgRun
    refine LeO.bind (h a s) (fun q => ?_)
    exact LeO.ite (msgRun_mono h l q.1) (LeO.refl _)
theorem reed_Message.mono (l0 : List ByteArray) (a1 : Int) (k : Nat) : LeO (reed_Message.f k l0 a1) (reed_Message.f (k + 1) l0 a1) := by
  unfold reed_Message.f
  refine LeO.ite (LeO.bind (LeO.refl _) (fun b => LeO.ite (LeO.bind (LeO.refl _) (fun q => LeO.ite (LeO.bind (msgRun_mono (fun a s => ?_) l0 []) (fun q2 => LeO.refl _)) (LeO.refl _))) (LeO.refl _))) (LeO.refl _)
  unfold msgStep2
  exact LeO.bind (reed_Data.mono _ _ k) (fun p => LeO.refl _)

/-! ### foghornref19_Words: function 35 -/
mutual
def foghornref19_Words.j0 : Nat → ByteArray → Int → Int → Bool → Option (List ByteArray × Int)
  | 0, _, _, _, _ => none
  | k + 1, x0, x1, x2, x20 => if x20 = true then (some (([] : List ByteArray), 1)) else (foghornref19_Words.l0 k x0 x1 x2 ([] : List ByteArray) 0)
def foghornref19_Words.l0 : Nat → ByteArray → Int → Int → List ByteArray → Int → Option (List ByteArray × Int)
  | 0, _, _, _, _, _ => none
  | k + 1, x0, x1, x2, x8, x9 => if x9 < (x0.size : Int) then (if 0 ≤ x9 then (if x9 ≤ (mn (x0.size : Int) (wrap64 ((wrap64 (x9 + x1)) - x2))) then (if (mn (x0.size : Int) (wrap64 ((wrap64 (x9 + x1)) - x2))) ≤ (x0.size : Int) then ((foghornref19_Encode.f k (x0.extract (x9 : Int).toNat ((mn (x0.size : Int) (wrap64 ((wrap64 (x9 + x1)) - x2))) : Int).toNat) x2).bind fun bt384 => (if x8.length < 8796093022208 then (foghornref19_Words.l0 k x0 x1 x2 (x8 ++ [bt384.1]) (wrap64 ((wrap64 (x9 + x1)) - x2))) else (none))) else (none)) else (none)) else (none)) else (some (x8, 0))
end
def foghornref19_Words.f (k : Nat) (a0 : ByteArray) (a1 : Int) (a2 : Int) : Option (List ByteArray × Int) := (foghornref19_Check.f a1 a2).bind fun t383 => (if t383 = 0 then (foghornref19_Words.j0 k a0 a1 a2 (decide ((a0.size : Int) > 32768))) else (foghornref19_Words.j0 k a0 a1 a2 true))
theorem foghornref19_Words.mono_l : ∀ k, (∀ y0 y1 y2 y3, LeO (foghornref19_Words.j0 k y0 y1 y2 y3) (foghornref19_Words.j0 (k + 1) y0 y1 y2 y3)) ∧ (∀ y0 y1 y2 y3 y4, LeO (foghornref19_Words.l0 k y0 y1 y2 y3 y4) (foghornref19_Words.l0 (k + 1) y0 y1 y2 y3 y4))
  | 0 => ⟨fun _ _ _ _ r h => by simp [foghornref19_Words.j0] at h, fun _ _ _ _ _ r h => by simp [foghornref19_Words.l0] at h⟩
  | k + 1 => by
    obtain ⟨ih0, ih1⟩ := foghornref19_Words.mono_l k
    refine ⟨?_, ?_⟩
    · intro y0 y1 y2 y3
      unfold foghornref19_Words.j0
      repeat' first
      | (with_reducible exact ih0 _ _ _ _)
      | (with_reducible exact ih1 _ _ _ _ _)
      | (with_reducible exact foghornref19_Encode.mono _ _ _)
      | (with_reducible exact LeO.refl _)
      | (with_reducible exact LeO.none _)
      | (with_reducible refine LeO.ite ?_ ?_)
      | (with_reducible refine LeO.bind ?_ (fun _ => ?_))
      | exact ih0 _ _ _ _
      | exact ih1 _ _ _ _ _
      | exact foghornref19_Encode.mono _ _ _
      | exact LeO.none _
      | refine LeO.ite ?_ ?_
      | refine LeO.bind ?_ (fun _ => ?_)
    · intro y0 y1 y2 y3 y4
      unfold foghornref19_Words.l0
      repeat' first
      | (with_reducible exact ih0 _ _ _ _)
      | (with_reducible exact ih1 _ _ _ _ _)
      | (with_reducible exact foghornref19_Encode.mono _ _ _)
      | (with_reducible exact LeO.refl _)
      | (with_reducible exact LeO.none _)
      | (with_reducible refine LeO.ite ?_ ?_)
      | (with_reducible refine LeO.bind ?_ (fun _ => ?_))
      | exact ih0 _ _ _ _
      | exact ih1 _ _ _ _ _
      | exact foghornref19_Encode.mono _ _ _
      | exact LeO.none _
      | refine LeO.ite ?_ ?_
      | refine LeO.bind ?_ (fun _ => ?_)
theorem foghornref19_Words.mono : ∀ a0 a1 a2 k, LeO (foghornref19_Words.f k a0 a1 a2) (foghornref19_Words.f (k + 1) a0 a1 a2) := by
  intro a0 a1 a2 k
  obtain ⟨ih0, ih1⟩ := foghornref19_Words.mono_l k
  unfold foghornref19_Words.f
  repeat' first
      | (with_reducible exact ih0 _ _ _ _)
      | (with_reducible exact ih1 _ _ _ _ _)
      | (with_reducible exact foghornref19_Encode.mono _ _ _)
      | (with_reducible exact LeO.refl _)
      | (with_reducible exact LeO.none _)
      | (with_reducible refine LeO.ite ?_ ?_)
      | (with_reducible refine LeO.bind ?_ (fun _ => ?_))
      | exact ih0 _ _ _ _
      | exact ih1 _ _ _ _ _
      | exact foghornref19_Encode.mono _ _ _
      | exact LeO.none _
      | refine LeO.ite ?_ ?_
      | refine LeO.bind ?_ (fun _ => ?_)

/-! ### foghornref19_Message: function 36 -/
mutual
def foghornref19_Message.l0 : Nat → List ByteArray → Int → List Int → Int → Option (ByteArray × Int)
  | 0, _, _, _, _ => none
  | k + 1, x0, x1, x6, x7 => if x7 < (x0.length : Int) then (if 0 ≤ x7 then ((foghornref19_Check.f ((rdOf ByteArray.empty x0 x7).size : Int) x1).bind fun t391 => (if t391 = 0 then (if 0 ≤ (wrap64 (((rdOf ByteArray.empty x0 x7).size : Int) - x1)) then (if (wrap64 (((rdOf ByteArray.empty x0 x7).size : Int) - x1)) ≤ ((rdOf ByteArray.empty x0 x7).size : Int) then (if x6.length + ((rdOf ByteArray.empty x0 x7).extract 0 ((wrap64 (((rdOf ByteArray.empty x0 x7).size : Int) - x1)) : Int).toNat).size < 140737488355328 then (foghornref19_Message.l0 k x0 x1 (x6 ++ bytesOf ((rdOf ByteArray.empty x0 x7).extract 0 ((wrap64 (((rdOf ByteArray.empty x0 x7).size : Int) - x1)) : Int).toNat)) (wrap64 (x7 + 1))) else (none)) else (none)) else (none)) else (some ((⟨#[]⟩ : ByteArray), 1)))) else (none)) else (if (x6.length : Int) > 32768 then (some ((⟨#[]⟩ : ByteArray), 1)) else (foghornref19_Message.l1 k x0 x1 x6 0))
def foghornref19_Message.l1 : Nat → List ByteArray → Int → List Int → Int → Option (ByteArray × Int)
  | 0, _, _, _, _ => none
  | k + 1, x0, x1, x6, x8 => if x8 < (x0.length : Int) then (if 0 ≤ x8 then ((foghornref19_Whole.f k (rdOf ByteArray.empty x0 x8) x1).bind fun bt398 => (if bt398.1 = true then (foghornref19_Message.l1 k x0 x1 x6 (wrap64 (x8 + 1))) else (some ((⟨#[]⟩ : ByteArray), 6)))) else (none)) else (some (strOfNums x6, 0))
end
def foghornref19_Message.f (k : Nat) (l0 : List ByteArray) (a1 : Int) : Option (ByteArray × Int) := (foghornref19_Check.f (wrap64 (a1 + 1)) a1).bind fun t389 => (if t389 = 0 then (foghornref19_Message.l0 k l0 a1 ([] : List Int) 0) else (some ((⟨#[]⟩ : ByteArray), 1)))
theorem foghornref19_Message.mono_l : ∀ k, (∀ y0 y1 y2 y3, LeO (foghornref19_Message.l0 k y0 y1 y2 y3) (foghornref19_Message.l0 (k + 1) y0 y1 y2 y3)) ∧ (∀ y0 y1 y2 y3, LeO (foghornref19_Message.l1 k y0 y1 y2 y3) (foghornref19_Message.l1 (k + 1) y0 y1 y2 y3))
  | 0 => ⟨fun _ _ _ _ r h => by simp [foghornref19_Message.l0] at h, fun _ _ _ _ r h => by simp [foghornref19_Message.l1] at h⟩
  | k + 1 => by
    obtain ⟨ih0, ih1⟩ := foghornref19_Message.mono_l k
    refine ⟨?_, ?_⟩
    · intro y0 y1 y2 y3
      unfold foghornref19_Message.l0
      repeat' first
      | (with_reducible exact ih0 _ _ _ _)
      | (with_reducible exact ih1 _ _ _ _)
      | (with_reducible exact foghornref19_Whole.mono _ _ _)
      | (with_reducible exact LeO.refl _)
      | (with_reducible exact LeO.none _)
      | (with_reducible refine LeO.ite ?_ ?_)
      | (with_reducible refine LeO.bind ?_ (fun _ => ?_))
      | exact ih0 _ _ _ _
      | exact ih1 _ _ _ _
      | exact foghornref19_Whole.mono _ _ _
      | exact LeO.none _
      | refine LeO.ite ?_ ?_
      | refine LeO.bind ?_ (fun _ => ?_)
    · intro y0 y1 y2 y3
      unfold foghornref19_Message.l1
      repeat' first
      | (with_reducible exact ih0 _ _ _ _)
      | (with_reducible exact ih1 _ _ _ _)
      | (with_reducible exact foghornref19_Whole.mono _ _ _)
      | (with_reducible exact LeO.refl _)
      | (with_reducible exact LeO.none _)
      | (with_reducible refine LeO.ite ?_ ?_)
      | (with_reducible refine LeO.bind ?_ (fun _ => ?_))
      | exact ih0 _ _ _ _
      | exact ih1 _ _ _ _
      | exact foghornref19_Whole.mono _ _ _
      | exact LeO.none _
      | refine LeO.ite ?_ ?_
      | refine LeO.bind ?_ (fun _ => ?_)
theorem foghornref19_Message.mono : ∀ a0 a1 k, LeO (foghornref19_Message.f k a0 a1) (foghornref19_Message.f (k + 1) a0 a1) := by
  intro a0 a1 k
  obtain ⟨ih0, ih1⟩ := foghornref19_Message.mono_l k
  unfold foghornref19_Message.f
  repeat' first
      | (with_reducible exact ih0 _ _ _ _)
      | (with_reducible exact ih1 _ _ _ _)
      | (with_reducible exact foghornref19_Whole.mono _ _ _)
      | (with_reducible exact LeO.refl _)
      | (with_reducible exact LeO.none _)
      | (with_reducible refine LeO.ite ?_ ?_)
      | (with_reducible refine LeO.bind ?_ (fun _ => ?_))
      | exact ih0 _ _ _ _
      | exact ih1 _ _ _ _
      | exact foghornref19_Whole.mono _ _ _
      | exact LeO.none _
      | refine LeO.ite ?_ ?_
      | refine LeO.bind ?_ (fun _ => ?_)
def foghornref19_Message.T9 : Bool × List (List Nat × List Nat) := (true, [([], []), ([], []), ([], []), ([1, 2], [1, 2]), ([3], [3]), ([], []), ([], []), ([5, 6], [5, 6]), ([7], [7]), ([8], [8]), ([], []), ([9, 10], [9, 10]), ([4, 11], [4, 11]), ([0, 12], [0, 12]), ([13, 13, 0, 1, 2, 3, 4, 5, 6, 7, 8, 9, 10, 11, 12, 13], [0, 13])])
def foghornref19_Message.B9 : List Nat := [0, 0, 0, 6, 14, 0, 0, 96, 224, 480, 0, 2016, 4094, 8191, 16383]
theorem foghornref19_Message.tab9 : rtab .any (opsOf Try.f36 9) = foghornref19_Message.T9 := by kernel_rfl
theorem foghornref19_Message.bits9 : waitsOk foghornref19_Message.T9.2 foghornref19_Message.B9 = true := by kernel_rfl

/-! ### foghornlaw19_sameTexts: function 37 -/
def foghornlaw19_sameTexts.l0 : Nat → List ByteArray → List ByteArray → Int → Option (Bool)
  | 0, _, _, _ => none
  | k + 1, x0, x1, x5 => if x5 < (x0.length : Int) then (if 0 ≤ x5 then (if x5 < (x1.length : Int) then (if (rdOf ByteArray.empty x0 x5).toList = (rdOf ByteArray.empty x1 x5).toList then (foghornlaw19_sameTexts.l0 k x0 x1 (wrap64 (x5 + 1))) else (some false)) else (none)) else (none)) else (some true)
def foghornlaw19_sameTexts.f (k : Nat) (l0 : List ByteArray) (l1 : List ByteArray) : Option (Bool) := if (l0.length : Int) = (l1.length : Int) then (foghornlaw19_sameTexts.l0 k l0 l1 0) else (some false)
theorem foghornlaw19_sameTexts.mono_l : ∀ k, (∀ y0 y1 y2, LeO (foghornlaw19_sameTexts.l0 k y0 y1 y2) (foghornlaw19_sameTexts.l0 (k + 1) y0 y1 y2))
  | 0 => fun _ _ _ r h => by simp [foghornlaw19_sameTexts.l0] at h
  | k + 1 => by
    have ih0 := foghornlaw19_sameTexts.mono_l k
    · intro y0 y1 y2
      unfold foghornlaw19_sameTexts.l0
      repeat' first
      | (with_reducible exact ih0 _ _ _)
      | (with_reducible exact LeO.refl _)
      | (with_reducible exact LeO.none _)
      | (with_reducible refine LeO.ite ?_ ?_)
      | (with_reducible refine LeO.bind ?_ (fun _ => ?_))
      | exact ih0 _ _ _
      | exact LeO.none _
      | refine LeO.ite ?_ ?_
      | refine LeO.bind ?_ (fun _ => ?_)
theorem foghornlaw19_sameTexts.mono : ∀ a0 a1 k, LeO (foghornlaw19_sameTexts.f k a0 a1) (foghornlaw19_sameTexts.f (k + 1) a0 a1) := by
  intro a0 a1 k
  have ih0 := foghornlaw19_sameTexts.mono_l k
  unfold foghornlaw19_sameTexts.f
  repeat' first
      | (with_reducible exact ih0 _ _ _)
      | (with_reducible exact LeO.refl _)
      | (with_reducible exact LeO.none _)
      | (with_reducible refine LeO.ite ?_ ?_)
      | (with_reducible refine LeO.bind ?_ (fun _ => ?_))
      | exact ih0 _ _ _
      | exact LeO.none _
      | refine LeO.ite ?_ ?_
      | refine LeO.bind ?_ (fun _ => ?_)

/-! ### foghornlaw19_ReedMessages: function 8 -/
mutual
def foghornlaw19_ReedMessages.j0 : Nat → ByteArray → Int → Int → List ByteArray → List ByteArray → Bool → Option (Bool)
  | 0, _, _, _, _, _, _ => none
  | k + 1, x0, x1, x2, x9, x11, x74 => if x74 = true then (some false) else (foghornlaw19_ReedMessages.l0 k x0 x1 x2 x9 x11 0)
def foghornlaw19_ReedMessages.l0 : Nat → ByteArray → Int → Int → List ByteArray → List ByteArray → Int → Option (Bool)
  | 0, _, _, _, _, _, _ => none
  | k + 1, x0, x1, x2, x9, x11, x18 => if x18 < (x9.length : Int) then (if 0 ≤ x18 then (foghornlaw19_ReedMessages.l0 k x0 x1 x2 (x9.set (x18 : Int).toNat (⟨#[120]⟩ : ByteArray)) x11 (wrap64 (x18 + 1))) else (none)) else ((reed_Words.f k x0 x1 x2).bind fun bt423 => ((foghornlaw19_sameTexts.f k bt423.1 x11).bind fun t427 => (some t427)))
end
def foghornlaw19_ReedMessages.f (k : Nat) (a0 : ByteArray) (a1 : Int) (a2 : Int) (l3 : List ByteArray) : Option (Bool) := (reed_Words.f k a0 a1 a2).bind fun bt402 => ((foghornref19_Words.f k a0 a1 a2).bind fun bt406 => ((some (([] : List ByteArray) : List ByteArray)).bind fun y410 => (if y410.length + l3.length < 8796093022208 then ((some (y410 ++ l3 : List ByteArray)).bind fun y413 => ((reed_Message.f k y413 a2).bind fun bt416 => ((foghornref19_Message.f k l3 a2).bind fun bt418 => ((foghornlaw19_sameTexts.f k bt402.1 bt406.1).bind fun t420 => (if t420 = true then (if bt402.2 = bt406.2 then (if bt416.1.toList = bt418.1.toList then (if bt416.2 = bt418.2 then ((foghornlaw19_sameTexts.f k y413 l3).bind fun t421 => (foghornlaw19_ReedMessages.j0 k a0 a1 a2 bt402.1 bt406.1 (!t421))) else (foghornlaw19_ReedMessages.j0 k a0 a1 a2 bt402.1 bt406.1 true)) else (foghornlaw19_ReedMessages.j0 k a0 a1 a2 bt402.1 bt406.1 true)) else (foghornlaw19_ReedMessages.j0 k a0 a1 a2 bt402.1 bt406.1 true)) else (foghornlaw19_ReedMessages.j0 k a0 a1 a2 bt402.1 bt406.1 true)))))) else (none))))
theorem foghornlaw19_ReedMessages.mono_l : ∀ k, (∀ y0 y1 y2 y3 y4 y5, LeO (foghornlaw19_ReedMessages.j0 k y0 y1 y2 y3 y4 y5) (foghornlaw19_ReedMessages.j0 (k + 1) y0 y1 y2 y3 y4 y5)) ∧ (∀ y0 y1 y2 y3 y4 y5, LeO (foghornlaw19_ReedMessages.l0 k y0 y1 y2 y3 y4 y5) (foghornlaw19_ReedMessages.l0 (k + 1) y0 y1 y2 y3 y4 y5))
  | 0 => ⟨fun _ _ _ _ _ _ r h => by simp [foghornlaw19_ReedMessages.j0] at h, fun _ _ _ _ _ _ r h => by simp [foghornlaw19_ReedMessages.l0] at h⟩
  | k + 1 => by
    obtain ⟨ih0, ih1⟩ := foghornlaw19_ReedMessages.mono_l k
    refine ⟨?_, ?_⟩
    · intro y0 y1 y2 y3 y4 y5
      unfold foghornlaw19_ReedMessages.j0
      repeat' first
      | (with_reducible exact ih0 _ _ _ _ _ _)
      | (with_reducible exact ih1 _ _ _ _ _ _)
      | (with_reducible exact foghornlaw19_sameTexts.mono _ _ _)
      | (with_reducible exact foghornref19_Message.mono _ _ _)
      | (with_reducible exact foghornref19_Words.mono _ _ _ _)
      | (with_reducible exact reed_Message.mono _ _ _)
      | (with_reducible exact reed_Words.mono _ _ _ _)
      | (with_reducible exact LeO.refl _)
      | (with_reducible exact LeO.none _)
      | (with_reducible refine LeO.ite ?_ ?_)
      | (with_reducible refine LeO.bind ?_ (fun _ => ?_))
      | exact ih0 _ _ _ _ _ _
      | exact ih1 _ _ _ _ _ _
      | exact foghornlaw19_sameTexts.mono _ _ _
      | exact foghornref19_Message.mono _ _ _
      | exact foghornref19_Words.mono _ _ _ _
      | exact reed_Message.mono _ _ _
      | exact reed_Words.mono _ _ _ _
      | exact LeO.none _
      | refine LeO.ite ?_ ?_
      | refine LeO.bind ?_ (fun _ => ?_)
    · intro y0 y1 y2 y3 y4 y5
      unfold foghornlaw19_ReedMessages.l0
      repeat' first
      | (with_reducible exact ih0 _ _ _ _ _ _)
      | (with_reducible exact ih1 _ _ _ _ _ _)
      | (with_reducible exact foghornlaw19_sameTexts.mono _ _ _)
      | (with_reducible exact foghornref19_Message.mono _ _ _)
      | (with_reducible exact foghornref19_Words.mono _ _ _ _)
      | (with_reducible exact reed_Message.mono _ _ _)
      | (with_reducible exact reed_Words.mono _ _ _ _)
      | (with_reducible exact LeO.refl _)
      | (with_reducible exact LeO.none _)
      | (with_reducible refine LeO.ite ?_ ?_)
      | (with_reducible refine LeO.bind ?_ (fun _ => ?_))
      | exact ih0 _ _ _ _ _ _
      | exact ih1 _ _ _ _ _ _
      | exact foghornlaw19_sameTexts.mono _ _ _
      | exact foghornref19_Message.mono _ _ _
      | exact foghornref19_Words.mono _ _ _ _
      | exact reed_Message.mono _ _ _
      | exact reed_Words.mono _ _ _ _
      | exact LeO.none _
      | refine LeO.ite ?_ ?_
      | refine LeO.bind ?_ (fun _ => ?_)
theorem foghornlaw19_ReedMessages.mono : ∀ a0 a1 a2 a3 k, LeO (foghornlaw19_ReedMessages.f k a0 a1 a2 a3) (foghornlaw19_ReedMessages.f (k + 1) a0 a1 a2 a3) := by
  intro a0 a1 a2 a3 k
  obtain ⟨ih0, ih1⟩ := foghornlaw19_ReedMessages.mono_l k
  unfold foghornlaw19_ReedMessages.f
  repeat' first
      | (with_reducible exact ih0 _ _ _ _ _ _)
      | (with_reducible exact ih1 _ _ _ _ _ _)
      | (with_reducible exact foghornlaw19_sameTexts.mono _ _ _)
      | (with_reducible exact foghornref19_Message.mono _ _ _)
      | (with_reducible exact foghornref19_Words.mono _ _ _ _)
      | (with_reducible exact reed_Message.mono _ _ _)
      | (with_reducible exact reed_Words.mono _ _ _ _)
      | (with_reducible exact LeO.refl _)
      | (with_reducible exact LeO.none _)
      | (with_reducible refine LeO.ite ?_ ?_)
      | (with_reducible refine LeO.bind ?_ (fun _ => ?_))
      | exact ih0 _ _ _ _ _ _
      | exact ih1 _ _ _ _ _ _
      | exact foghornlaw19_sameTexts.mono _ _ _
      | exact foghornref19_Message.mono _ _ _
      | exact foghornref19_Words.mono _ _ _ _
      | exact reed_Message.mono _ _ _
      | exact reed_Words.mono _ _ _ _
      | exact LeO.none _
      | refine LeO.ite ?_ ?_
      | refine LeO.bind ?_ (fun _ => ?_)
/-- THE ONE PURE STATEMENT of foghornlaw19_ReedMessages: ours. -/
def foghornlaw19_ReedMessages.Pure : Prop := ∀ (a0 : ByteArray) (a1 : Int) (a2 : Int) (l3 : List ByteArray), (a0.size ≤ 140737488351232) → ((Lit.int .i64 a1).wf = true) → ((Lit.int .i64 a2).wf = true) → (l3.length * 16 ≤ 140737488351232 ∧ ∀ x ∈ l3, (fun y_ : ByteArray => y_.size ≤ 140737488351232) x) → ((a0.size + 1) + 1 + 1 + ((l3.map (fun y_ : ByteArray => (y_.size + 1))).sum + 1) ≤ 1048576) → ∃ k, foghornlaw19_ReedMessages.f k a0 a1 a2 l3 = some true

/-! ### field_long: function 77 -/
def field_long.f (l0 : List (List Int)) : Option (Bool) := some (l0.any fun l => decide ((l.length : Int) > 512))

/-! ### field_sum: function 78 -/
mutual
def field_sum.l0 : Nat → List Int → List Int → Int → Int → Option (List Int)
  | 0, _, _, _, _ => none
  | k + 1, x5, x17, x18, x19 => if x19 < x18 then (if 0 ≤ x19 then (if x19 < (x17.length : Int) then (if x19 < (x5.length : Int) then (field_sum.l0 k (x5.set (x19 : Int).toNat (Go.bits .xor .u8 (rd x5 x19) (rd x17 x19))) x17 x18 (wrap64 (x19 + 1))) else (none)) else (none)) else (none)) else ((field_poly.f k x5).bind fun t454 => (some t454))
def field_sum.l102 : Nat → List Int → List Int → Int → Int → Option (List Int)
  | 0, _, _, _, _ => none
  | k + 1, x5, x17, x18, x19 => if x19 < x18 then (if 0 ≤ x19 then (if x19 < (x17.length : Int) then (if x19 < (x5.length : Int) then (field_sum.l102 k (x5.set (x19 : Int).toNat (Go.bits .xor .u8 (rd x5 x19) (rd x17 x19))) x17 x18 (wrap64 (x19 + 1))) else (none)) else (none)) else (none)) else ((field_poly.f k x5).bind fun t463 => (some t463))
end
def field_sum.f (k : Nat) (l0 : List Int) (l1 : List Int) : Option (List Int) := if (l0.length : Int) < (l1.length : Int) then ((slices_Clone_uint8_uint8.f l1).bind fun t448 => (field_sum.l0 k t448 l0 (l0.length : Int) 0)) else ((slices_Clone_uint8_uint8.f l0).bind fun t457 => (field_sum.l102 k t457 l1 (l1.length : Int) 0))
theorem field_sum.mono_l : ∀ k, (∀ y0 y1 y2 y3, LeO (field_sum.l0 k y0 y1 y2 y3) (field_sum.l0 (k + 1) y0 y1 y2 y3)) ∧ (∀ y0 y1 y2 y3, LeO (field_sum.l102 k y0 y1 y2 y3) (field_sum.l102 (k + 1) y0 y1 y2 y3))
  | 0 => ⟨fun _ _ _ _ r h => by simp [field_sum.l0] at h, fun _ _ _ _ r h => by simp [field_sum.l102] at h⟩
  | k + 1 => by
    obtain ⟨ih0, ih1⟩ := field_sum.mono_l k
    refine ⟨?_, ?_⟩
    · intro y0 y1 y2 y3
      unfold field_sum.l0
      repeat' first
      | (with_reducible exact ih0 _ _ _ _)
      | (with_reducible exact ih1 _ _ _ _)
      | (with_reducible exact field_poly.mono _ _)
      | (with_reducible exact LeO.refl _)
      | (with_reducible exact LeO.none _)
      | (with_reducible refine LeO.ite ?_ ?_)
      | (with_reducible refine LeO.bind ?_ (fun _ => ?_))
      | exact ih0 _ _ _ _
      | exact ih1 _ _ _ _
      | exact field_poly.mono _ _
      | exact LeO.none _
      | refine LeO.ite ?_ ?_
      | refine LeO.bind ?_ (fun _ => ?_)
    · intro y0 y1 y2 y3
      unfold field_sum.l102
      repeat' first
      | (with_reducible exact ih0 _ _ _ _)
      | (with_reducible exact ih1 _ _ _ _)
      | (with_reducible exact field_poly.mono _ _)
      | (with_reducible exact LeO.refl _)
      | (with_reducible exact LeO.none _)
      | (with_reducible refine LeO.ite ?_ ?_)
      | (with_reducible refine LeO.bind ?_ (fun _ => ?_))
      | exact ih0 _ _ _ _
      | exact ih1 _ _ _ _
      | exact field_poly.mono _ _
      | exact LeO.none _
      | refine LeO.ite ?_ ?_
      | refine LeO.bind ?_ (fun _ => ?_)
theorem field_sum.mono : ∀ a0 a1 k, LeO (field_sum.f k a0 a1) (field_sum.f (k + 1) a0 a1) := by
  intro a0 a1 k
  obtain ⟨ih0, ih1⟩ := field_sum.mono_l k
  unfold field_sum.f
  repeat' first
      | (with_reducible exact ih0 _ _ _ _)
      | (with_reducible exact ih1 _ _ _ _)
      | (with_reducible exact field_poly.mono _ _)
      | (with_reducible exact LeO.refl _)
      | (with_reducible exact LeO.none _)
      | (with_reducible refine LeO.ite ?_ ?_)
      | (with_reducible refine LeO.bind ?_ (fun _ => ?_))
      | exact ih0 _ _ _ _
      | exact ih1 _ _ _ _
      | exact field_poly.mono _ _
      | exact LeO.none _
      | refine LeO.ite ?_ ?_
      | refine LeO.bind ?_ (fun _ => ?_)

/-! ### field_Sum: function 38 -/
def field_Sum.f (k : Nat) (l0 : List Int) (l1 : List Int) : Option (List Int × Int) := (field_long.f (([l0, l1] : List (List Int)))).bind fun t469 => (if t469 = true then (some (([] : List Int), 1)) else ((field_sum.f k l0 l1).bind fun t470 => (some (t470, 0))))
theorem field_Sum.mono : ∀ a0 a1 k, LeO (field_Sum.f k a0 a1) (field_Sum.f (k + 1) a0 a1) := by
  intro a0 a1 k
  unfold field_Sum.f
  repeat' first
      | (with_reducible exact field_sum.mono _ _ _)
      | (with_reducible exact LeO.refl _)
      | (with_reducible exact LeO.none _)
      | (with_reducible refine LeO.ite ?_ ?_)
      | (with_reducible refine LeO.bind ?_ (fun _ => ?_))
      | exact field_sum.mono _ _ _
      | exact LeO.none _
      | refine LeO.ite ?_ ?_
      | refine LeO.bind ?_ (fun _ => ?_)

/-! ### field_Product: function 39 -/
def field_Product.f (k : Nat) (l0 : List Int) (l1 : List Int) : Option (List Int × Int) := (field_long.f (([l0, l1] : List (List Int)))).bind fun t476 => (if t476 = true then (some (([] : List Int), 1)) else ((field_poly.f k l0).bind fun t477 => ((field_poly.f k l1).bind fun t480 => (if (mn (t477.length : Int) (t480.length : Int)) > 0 then (if (wrap64 ((t477.length : Int) + (t480.length : Int))) > 513 then (some (([] : List Int), 1)) else ((field_product.f k t477 t480).bind fun t483 => (some (t483, 0)))) else ((field_product.f k t477 t480).bind fun t486 => (some (t486, 0)))))))
theorem field_Product.mono : ∀ a0 a1 k, LeO (field_Product.f k a0 a1) (field_Product.f (k + 1) a0 a1) := by
  intro a0 a1 k
  unfold field_Product.f
  repeat' first
      | (with_reducible exact field_poly.mono _ _)
      | (with_reducible exact field_product.mono _ _ _)
      | (with_reducible exact LeO.refl _)
      | (with_reducible exact LeO.none _)
      | (with_reducible refine LeO.ite ?_ ?_)
      | (with_reducible refine LeO.bind ?_ (fun _ => ?_))
      | exact field_poly.mono _ _
      | exact field_product.mono _ _ _
      | exact LeO.none _
      | refine LeO.ite ?_ ?_
      | refine LeO.bind ?_ (fun _ => ?_)

/-! ### field_divide: function 81 -/
mutual
def field_divide.l0 : Nat → List Int → List Int → List Int → Int → Int → Option (List Int × List Int)
  | 0, _, _, _, _, _ => none
  | k + 1, x1, x4, x5, x6, x7 => if x7 ≥ 0 then (if 0 ≤ (wrap64 ((wrap64 (x7 + (x1.length : Int))) - 1)) then (if (wrap64 ((wrap64 (x7 + (x1.length : Int))) - 1)) < (x5.length : Int) then ((field_Times.f k (rd x5 (wrap64 ((wrap64 (x7 + (x1.length : Int))) - 1))) x6).bind fun t501 => (if 0 ≤ x7 then (if x7 < (x4.length : Int) then (field_divide.l1 k x1 (x4.set (x7 : Int).toNat t501) x5 x6 x7 t501 x1 (x1.length : Int) 0) else (none)) else (none))) else (none)) else (none)) else ((field_poly.f k x5).bind fun t497 => (some (x4, t497)))
def field_divide.l1 : Nat → List Int → List Int → List Int → Int → Int → Int → List Int → Int → Int → Option (List Int × List Int)
  | 0, _, _, _, _, _, _, _, _, _ => none
  | k + 1, x1, x4, x5, x6, x7, x8, x49, x50, x51 => if x51 < x50 then (if 0 ≤ x51 then (if x51 < (x49.length : Int) then (if 0 ≤ (wrap64 (x7 + x51)) then (if (wrap64 (x7 + x51)) < (x5.length : Int) then ((field_Times.f k x8 (rd x49 x51)).bind fun t505 => (field_divide.l1 k x1 x4 (x5.set ((wrap64 (x7 + x51)) : Int).toNat (Go.bits .xor .u8 (rd x5 (wrap64 (x7 + x51))) t505)) x6 x7 x8 x49 x50 (wrap64 (x51 + 1)))) else (none)) else (none)) else (none)) else (none)) else (field_divide.l0 k x1 x4 x5 x6 (wrap64 (x7 - 1)))
end
def field_divide.f (k : Nat) (l0 : List Int) (l1 : List Int) : Option (List Int × List Int) := (field_poly.f k l0).bind fun t489 => (if 0 ≤ (wrap64 ((l1.length : Int) - 1)) then (if (wrap64 ((l1.length : Int) - 1)) < (l1.length : Int) then ((field_raised.f k (rd l1 (wrap64 ((l1.length : Int) - 1))) 254).bind fun t493 => (if 0 ≤ (mx 0 (wrap64 ((wrap64 ((t489.length : Int) - (l1.length : Int))) + 1))) then (if (mx 0 (wrap64 ((wrap64 ((t489.length : Int) - (l1.length : Int))) + 1)) : Int).toNat ≤ 281474976710656 then ((some (List.replicate (mx 0 (wrap64 ((wrap64 ((t489.length : Int) - (l1.length : Int))) + 1)) : Int).toNat 0 : List Int)).bind fun y494 => (field_divide.l0 k l1 y494 t489 t493 (wrap64 ((y494.length : Int) - 1)))) else (none)) else (none))) else (none)) else (none))
theorem field_divide.mono_l : ∀ k, (∀ y0 y1 y2 y3 y4, LeO (field_divide.l0 k y0 y1 y2 y3 y4) (field_divide.l0 (k + 1) y0 y1 y2 y3 y4)) ∧ (∀ y0 y1 y2 y3 y4 y5 y6 y7 y8, LeO (field_divide.l1 k y0 y1 y2 y3 y4 y5 y6 y7 y8) (field_divide.l1 (k + 1) y0 y1 y2 y3 y4 y5 y6 y7 y8))
  | 0 => ⟨fun _ _ _ _ _ r h => by simp [field_divide.l0] at h, fun _ _ _ _ _ _ _ _ _ r h => by simp [field_divide.l1] at h⟩
  | k + 1 => by
    obtain ⟨ih0, ih1⟩ := field_divide.mono_l k
    refine ⟨?_, ?_⟩
    · intro y0 y1 y2 y3 y4
      unfold field_divide.l0
      repeat' first
      | (with_reducible exact ih0 _ _ _ _ _)
      | (with_reducible exact ih1 _ _ _ _ _ _ _ _ _)
      | (with_reducible exact field_Times.mono _ _ _)
      | (with_reducible exact field_poly.mono _ _)
      | (with_reducible exact field_raised.mono _ _ _)
      | (with_reducible exact LeO.refl _)
      | (with_reducible exact LeO.none _)
      | (with_reducible refine LeO.ite ?_ ?_)
      | (with_reducible refine LeO.bind ?_ (fun _ => ?_))
      | exact ih0 _ _ _ _ _
      | exact ih1 _ _ _ _ _ _ _ _ _
      | exact field_Times.mono _ _ _
      | exact field_poly.mono _ _
      | exact field_raised.mono _ _ _
      | exact LeO.none _
      | refine LeO.ite ?_ ?_
      | refine LeO.bind ?_ (fun _ => ?_)
    · intro y0 y1 y2 y3 y4 y5 y6 y7 y8
      unfold field_divide.l1
      repeat' first
      | (with_reducible exact ih0 _ _ _ _ _)
      | (with_reducible exact ih1 _ _ _ _ _ _ _ _ _)
      | (with_reducible exact field_Times.mono _ _ _)
      | (with_reducible exact field_poly.mono _ _)
      | (with_reducible exact field_raised.mono _ _ _)
      | (with_reducible exact LeO.refl _)
      | (with_reducible exact LeO.none _)
      | (with_reducible refine LeO.ite ?_ ?_)
      | (with_reducible refine LeO.bind ?_ (fun _ => ?_))
      | exact ih0 _ _ _ _ _
      | exact ih1 _ _ _ _ _ _ _ _ _
      | exact field_Times.mono _ _ _
      | exact field_poly.mono _ _
      | exact field_raised.mono _ _ _
      | exact LeO.none _
      | refine LeO.ite ?_ ?_
      | refine LeO.bind ?_ (fun _ => ?_)
theorem field_divide.mono : ∀ a0 a1 k, LeO (field_divide.f k a0 a1) (field_divide.f (k + 1) a0 a1) := by
  intro a0 a1 k
  obtain ⟨ih0, ih1⟩ := field_divide.mono_l k
  unfold field_divide.f
  repeat' first
      | (with_reducible exact ih0 _ _ _ _ _)
      | (with_reducible exact ih1 _ _ _ _ _ _ _ _ _)
      | (with_reducible exact field_Times.mono _ _ _)
      | (with_reducible exact field_poly.mono _ _)
      | (with_reducible exact field_raised.mono _ _ _)
      | (with_reducible exact LeO.refl _)
      | (with_reducible exact LeO.none _)
      | (with_reducible refine LeO.ite ?_ ?_)
      | (with_reducible refine LeO.bind ?_ (fun _ => ?_))
      | exact ih0 _ _ _ _ _
      | exact ih1 _ _ _ _ _ _ _ _ _
      | exact field_Times.mono _ _ _
      | exact field_poly.mono _ _
      | exact field_raised.mono _ _ _
      | exact LeO.none _
      | refine LeO.ite ?_ ?_
      | refine LeO.bind ?_ (fun _ => ?_)
def field_divide.T12 : Bool × List (List Nat × List Nat) := (true, [([], []), ([], []), ([], []), ([1, 2], [1, 2]), ([0, 3], [0, 3]), ([4], [4]), ([], []), ([], []), ([6, 7], [6, 7]), ([5, 8], [5, 8]), ([0, 3, 0, 1, 2, 3, 4, 5, 6, 7, 8, 9], [0, 3]), ([10, 9, 8, 0, 1, 2, 3, 4, 5, 6, 7, 8, 9], [9, 10])])
def field_divide.B12 : List Nat := [0, 0, 0, 6, 15, 31, 0, 0, 192, 511, 1023, 2047]
theorem field_divide.tab12 : rtab .any (opsOf Try.f81 12) = field_divide.T12 := by kernel_rfl
theorem field_divide.bits12 : waitsOk field_divide.T12.2 field_divide.B12 = true := by kernel_rfl

/-! ### field_at: function 82 -/
def field_at.step (a1 : Int) (s n : Int) : Option Int := (field_Times.f 9 s a1).map fun t => Go.bits .xor .u8 t n
def field_at.f (l0 : List Int) (a1 : Int) : Option (Int) := if 0 ≤ a1 ∧ a1 ≤ 255 then some (l0.foldr (fun n s => (field_at.step a1 s n).getD 0) 0) else none
theorem field_at.times_some (a b : Int) (h0 : 0 ≤ b) (h1 : b ≤ 255) : ∃ r, field_Times.f 9 a b = some r := by
  have key : ∀ (k : Nat) (a b p : Int), 0 ≤ b → b < 2 ^ k → ∃ r, field_Times.l0 (k + 1) a b p = some r := by
    intro k
    induction k with
    | zero => intro a b p h0 h1; refine ⟨p, ?_⟩; rw [field_Times.l0, if_neg (by omega)]
    | succ k ih =>
      intro a b p h0 h1
      by_cases hb : b > 0
      · rw [field_Times.l0, if_pos hb]
        exact ih _ _ _ (by omega) (by rw [Int.pow_succ] at h1; omega)
      · refine ⟨p, ?_⟩; rw [field_Times.l0, if_neg hb]
  exact key 8 a b 0 h0 (by omega)

/-! ### field_At: function 45 -/
def field_At.f (l0 : List Int) (a1 : Int) : Option (Int × Int) := (field_long.f (([l0] : List (List Int)))).bind fun t588 => (if t588 = true then (some (0, 1)) else ((field_at.f l0 a1).bind fun t589 => (some (t589, 0))))

end Go.Proofs.Ytncoakokdajibaa.Q
