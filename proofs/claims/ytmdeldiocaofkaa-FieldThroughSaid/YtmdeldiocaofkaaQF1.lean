-- Printed by myprint.py (ours) over the kit's printer, out of the translation.
import Derived.Test.YtmdeldiocaofkaaQ0
import Derived.Test.YtmdeldiocaofkaaQF0
namespace Go.Proofs.Ytmdeldiocaofkaa.Q
open Go.RowKit Go.Proofs.YtmdeldiocaofkaaW.PrintWords Go.Proofs.YtmdeldiocaofkaaW.PrintLast Go.Proofs.YtmdeldiocaofkaaW.PrintMore
attribute [local go_sem] ArrW.ptrOf_slice max2_int min2_int max_two min_two max_three min_three max_four min_four   -- for this text's walks alone
set_option linter.unusedVariables false
set_option linter.unusedSimpArgs false

-- NOT PRINTED: function 94 (slices_Backward_uint8_uint8)

/-! ### field_at: function 69 -/
def field_at.step (a1 : Int) (s n : Int) : Option Int := (field_Times.f 9 s a1).map fun t => Go.bits .xor .u8 t n
def field_at.f (l0 : List Int) (a1 : Int) : Option (Int) := if 0 ≤ a1 ∧ a1 ≤ 255 then some (l0.foldr (fun n s => (field_at.step a1 s n).getD 0) 0) else none
theorem field_at.times_some (a b : Int) (h0 : 0 ≤ b) (h1 : b ≤ 255) : ∃ r, field_Times.f 9 a b = some r := by
  have key : ∀ (k : Nat) (a b p : Int), 0 ≤ b → b < 2 ^ k → ∃ r, field_Times.l0 (k + 1) a b p = some r := by
    intro k
    induction k with
    | zero => intro a b p h0 h1; refine ⟨p, ?_⟩; rw [field_Times.l0, if_neg (by omega)]
    | succ k ih =>
      intro a b p h0 h1
      by_cases hb : b > 0
      · rw [field_Times.l0, if_pos hb]
        exact ih _ _ _ (by omega) (by rw [Int.pow_succ] at h1; omega)
      · refine ⟨p, ?_⟩; rw [field_Times.l0, if_neg hb]
  exact key 8 a b 0 h0 (by omega)

/-! ### field_sum: function 70 -/
mutual
def field_sum.l0 : Nat → List Int → List Int → Int → Int → Option (List Int)
  | 0, _, _, _, _ => none
  | k + 1, x5, x17, x18, x19 => if x19 < x18 then (if 0 ≤ x19 then (if x19 < (x17.length : Int) then (if x19 < (x5.length : Int) then (field_sum.l0 k (x5.set (x19 : Int).toNat (Go.bits .xor .u8 (rd x5 x19) (rd x17 x19))) x17 x18 (wrap64 (x19 + 1))) else (none)) else (none)) else (none)) else ((field_poly.f k x5).bind fun t297 => (some t297))
def field_sum.l102 : Nat → List Int → List Int → Int → Int → Option (List Int)
  | 0, _, _, _, _ => none
  | k + 1, x5, x17, x18, x19 => if x19 < x18 then (if 0 ≤ x19 then (if x19 < (x17.length : Int) then (if x19 < (x5.length : Int) then (field_sum.l102 k (x5.set (x19 : Int).toNat (Go.bits .xor .u8 (rd x5 x19) (rd x17 x19))) x17 x18 (wrap64 (x19 + 1))) else (none)) else (none)) else (none)) else ((field_poly.f k x5).bind fun t306 => (some t306))
end
def field_sum.f (k : Nat) (l0 : List Int) (l1 : List Int) : Option (List Int) := if (l0.length : Int) < (l1.length : Int) then ((slices_Clone_uint8_uint8.f l1).bind fun t291 => (field_sum.l0 k t291 l0 (l0.length : Int) 0)) else ((slices_Clone_uint8_uint8.f l0).bind fun t300 => (field_sum.l102 k t300 l1 (l1.length : Int) 0))
theorem field_sum.mono_l : ∀ k, (∀ y0 y1 y2 y3, LeO (field_sum.l0 k y0 y1 y2 y3) (field_sum.l0 (k + 1) y0 y1 y2 y3)) ∧ (∀ y0 y1 y2 y3, LeO (field_sum.l102 k y0 y1 y2 y3) (field_sum.l102 (k + 1) y0 y1 y2 y3))
  | 0 => ⟨fun _ _ _ _ r h => by simp [field_sum.l0] at h, fun _ _ _ _ r h => by simp [field_sum.l102] at h⟩
  | k + 1 => by
    obtain ⟨ih0, ih1⟩ := field_sum.mono_l k
    refine ⟨?_, ?_⟩
    · intro y0 y1 y2 y3
      unfold field_sum.l0
      repeat' first
      | (with_reducible exact ih0 _ _ _ _)
      | (with_reducible exact ih1 _ _ _ _)
      | (with_reducible exact field_poly.mono _ _)
      | (with_reducible exact LeO.refl _)
      | (with_reducible exact LeO.none _)
      | (with_reducible refine LeO.ite ?_ ?_)
      | (with_reducible refine LeO.bind ?_ (fun _ => ?_))
      | exact ih0 _ _ _ _
      | exact ih1 _ _ _ _
      | exact field_poly.mono _ _
      | exact LeO.none _
      | refine LeO.ite ?_ ?_
      | refine LeO.bind ?_ (fun _ => ?_)
    · intro y0 y1 y2 y3
      unfold field_sum.l102
      repeat' first
      | (with_reducible exact ih0 _ _ _ _)
      | (with_reducible exact ih1 _ _ _ _)
      | (with_reducible exact field_poly.mono _ _)
      | (with_reducible exact LeO.refl _)
      | (with_reducible exact LeO.none _)
      | (with_reducible refine LeO.ite ?_ ?_)
      | (with_reducible refine LeO.bind ?_ (fun _ => ?_))
      | exact ih0 _ _ _ _
      | exact ih1 _ _ _ _
      | exact field_poly.mono _ _
      | exact LeO.none _
      | refine LeO.ite ?_ ?_
      | refine LeO.bind ?_ (fun _ => ?_)
theorem field_sum.mono : ∀ a0 a1 k, LeO (field_sum.f k a0 a1) (field_sum.f (k + 1) a0 a1) := by
  intro a0 a1 k
  obtain ⟨ih0, ih1⟩ := field_sum.mono_l k
  unfold field_sum.f
  repeat' first
      | (with_reducible exact ih0 _ _ _ _)
      | (with_reducible exact ih1 _ _ _ _)
      | (with_reducible exact field_poly.mono _ _)
      | (with_reducible exact LeO.refl _)
      | (with_reducible exact LeO.none _)
      | (with_reducible refine LeO.ite ?_ ?_)
      | (with_reducible refine LeO.bind ?_ (fun _ => ?_))
      | exact ih0 _ _ _ _
      | exact ih1 _ _ _ _
      | exact field_poly.mono _ _
      | exact LeO.none _
      | refine LeO.ite ?_ ?_
      | refine LeO.bind ?_ (fun _ => ?_)

/-! ### field_Through: function 33 -/
def field_Through.l0 : Nat → List Int → List Int → List Int → List (S45) → Int → Int → Option (List Int × Int)
  | 0, _, _, _, _, _, _ => none
  | k + 1, x4, x5, x6, x14, x15, x16 => if x16 < x15 then (if 0 ≤ x16 then (if x16 < (x14.length : Int) then (if 0 ≤ ((rd_T45 x14 x16).f0) then (if ((rd_T45 x14 x16).f0) < 256 then (if ((rd_T45 x14 x16).f0) < (x4.length : Int) then ((some (x4.set (((rd_T45 x14 x16).f0) : Int).toNat (wrap64 ((rd x4 ((rd_T45 x14 x16).f0)) + 1)) : List Int)).bind fun y318 => (if (rd y318 ((rd_T45 x14 x16).f0)) > 1 then (some (([] : List Int), 1)) else ((field_at.f x5 ((rd_T45 x14 x16).f0)).bind fun t320 => ((field_at.f x6 ((rd_T45 x14 x16).f0)).bind fun t321 => ((field_raised.f k t321 254).bind fun t322 => ((field_Times.f k (Go.bits .xor .u8 t320 ((rd_T45 x14 x16).f1)) t322).bind fun t323 => ((field_product.f k x6 (([t323] : List Int))).bind fun t327 => ((field_sum.f k x5 t327).bind fun t330 => ((field_product.f k x6 (([(rd_T45 x14 x16).f0, 1] : List Int))).bind fun t336 => (field_Through.l0 k y318 t330 t336 x14 x15 (wrap64 (x16 + 1)))))))))))) else (none)) else (none)) else (none)) else (none)) else (none)) else (some (x5, 0))
def field_Through.f (k : Nat) (l0 : List (S45)) : Option (List Int × Int) := if (l0.length : Int) > 256 then (some (([] : List Int), 1)) else (field_Through.l0 k (List.replicate 256 0) ([] : List Int) (([1] : List Int)) l0 (l0.length : Int) 0)
theorem field_Through.mono_l : ∀ k, (∀ y0 y1 y2 y3 y4 y5, LeO (field_Through.l0 k y0 y1 y2 y3 y4 y5) (field_Through.l0 (k + 1) y0 y1 y2 y3 y4 y5))
  | 0 => fun _ _ _ _ _ _ r h => by simp [field_Through.l0] at h
  | k + 1 => by
    have ih0 := field_Through.mono_l k
    · intro y0 y1 y2 y3 y4 y5
      unfold field_Through.l0
      repeat' first
      | (with_reducible exact ih0 _ _ _ _ _ _)
      | (with_reducible exact field_Times.mono _ _ _)
      | (with_reducible exact field_product.mono _ _ _)
      | (with_reducible exact field_raised.mono _ _ _)
      | (with_reducible exact field_sum.mono _ _ _)
      | (with_reducible exact LeO.refl _)
      | (with_reducible exact LeO.none _)
      | (with_reducible refine LeO.ite ?_ ?_)
      | (with_reducible refine LeO.bind ?_ (fun _ => ?_))
      | exact ih0 _ _ _ _ _ _
      | exact field_Times.mono _ _ _
      | exact field_product.mono _ _ _
      | exact field_raised.mono _ _ _
      | exact field_sum.mono _ _ _
      | exact LeO.none _
      | refine LeO.ite ?_ ?_
      | refine LeO.bind ?_ (fun _ => ?_)
theorem field_Through.mono : ∀ a0 k, LeO (field_Through.f k a0) (field_Through.f (k + 1) a0) := by
  intro a0 k
  have ih0 := field_Through.mono_l k
  unfold field_Through.f
  repeat' first
      | (with_reducible exact ih0 _ _ _ _ _ _)
      | (with_reducible exact field_Times.mono _ _ _)
      | (with_reducible exact field_product.mono _ _ _)
      | (with_reducible exact field_raised.mono _ _ _)
      | (with_reducible exact field_sum.mono _ _ _)
      | (with_reducible exact LeO.refl _)
      | (with_reducible exact LeO.none _)
      | (with_reducible refine LeO.ite ?_ ?_)
      | (with_reducible refine LeO.bind ?_ (fun _ => ?_))
      | exact ih0 _ _ _ _ _ _
      | exact field_Times.mono _ _ _
      | exact field_product.mono _ _ _
      | exact field_raised.mono _ _ _
      | exact field_sum.mono _ _ _
      | exact LeO.none _
      | refine LeO.ite ?_ ?_
      | refine LeO.bind ?_ (fun _ => ?_)
def field_Through.T12 : Bool × List (List Nat × List Nat) := (true, [([], []), ([], []), ([1], [1]), ([0, 2], [0, 2]), ([], []), ([4], [4]), ([3, 5], [3, 5]), ([], []), ([], []), ([8], [8]), ([7, 9, 3], [7, 9]), ([10, 10], [10]), ([6, 11, 11], [6, 11]), ([12, 12, 0, 1, 2, 3, 4, 5, 6, 7, 8, 9, 10, 11, 12], [12])])
def field_Through.B12 : List Nat := [0, 0, 2, 7, 0, 16, 63, 0, 0, 256, 911, 1935, 4095, 8191]
theorem field_Through.tab12 : rtab .any (opsOf Try.f33 12) = field_Through.T12 := by kernel_rfl
theorem field_Through.bits12 : waitsOk field_Through.T12.2 field_Through.B12 = true := by kernel_rfl

/-! ### foghornref18_Trim: function 75 -/
def foghornref18_Trim.l0 : Nat → List Int → Int → Option (List Int)
  | 0, _, _ => none
  | k + 1, x0, x3 => if x3 > 0 then (if 0 ≤ (wrap64 (x3 - 1)) then (if (wrap64 (x3 - 1)) < (x0.length : Int) then (if (rd x0 (wrap64 (x3 - 1))) = 0 then (foghornref18_Trim.l0 k x0 (wrap64 (x3 - 1))) else ((some (([] : List Int) : List Int)).bind fun y340 => (if 0 ≤ x3 then (if x3 ≤ (x0.length : Int) then (if y340.length + (x0.take (x3 : Int).toNat).length < 140737488355328 then (some (y340 ++ (x0.take (x3 : Int).toNat))) else (none)) else (none)) else (none)))) else (none)) else (none)) else ((some (([] : List Int) : List Int)).bind fun y347 => (if 0 ≤ x3 then (if x3 ≤ (x0.length : Int) then (if y347.length + (x0.take (x3 : Int).toNat).length < 140737488355328 then (some (y347 ++ (x0.take (x3 : Int).toNat))) else (none)) else (none)) else (none)))
def foghornref18_Trim.f (k : Nat) (l0 : List Int) : Option (List Int) := foghornref18_Trim.l0 k l0 (l0.length : Int)
theorem foghornref18_Trim.mono_l : ∀ k, (∀ y0 y1, LeO (foghornref18_Trim.l0 k y0 y1) (foghornref18_Trim.l0 (k + 1) y0 y1))
  | 0 => fun _ _ r h => by simp [foghornref18_Trim.l0] at h
  | k + 1 => by
    have ih0 := foghornref18_Trim.mono_l k
    · intro y0 y1
      unfold foghornref18_Trim.l0
      repeat' first
      | (with_reducible exact ih0 _ _)
      | (with_reducible exact LeO.refl _)
      | (with_reducible exact LeO.none _)
      | (with_reducible refine LeO.ite ?_ ?_)
      | (with_reducible refine LeO.bind ?_ (fun _ => ?_))
      | exact ih0 _ _
      | exact LeO.none _
      | refine LeO.ite ?_ ?_
      | refine LeO.bind ?_ (fun _ => ?_)
theorem foghornref18_Trim.mono : ∀ a0 k, LeO (foghornref18_Trim.f k a0) (foghornref18_Trim.f (k + 1) a0) := by
  intro a0 k
  have ih0 := foghornref18_Trim.mono_l k
  unfold foghornref18_Trim.f
  repeat' first
      | (with_reducible exact ih0 _ _)
      | (with_reducible exact LeO.refl _)
      | (with_reducible exact LeO.none _)
      | (with_reducible refine LeO.ite ?_ ?_)
      | (with_reducible refine LeO.bind ?_ (fun _ => ?_))
      | exact ih0 _ _
      | exact LeO.none _
      | refine LeO.ite ?_ ?_
      | refine LeO.bind ?_ (fun _ => ?_)

/-! ### foghornref18_product: function 72 -/
mutual
def foghornref18_product.l0 : Nat → List Int → List Int → List Int → Int → Option (List Int)
  | 0, _, _, _, _ => none
  | k + 1, x0, x1, x5, x6 => if x6 < (x0.length : Int) then (foghornref18_product.l1 k x0 x1 x5 x6 0) else ((foghornref18_Trim.f k x5).bind fun t357 => (some t357))
def foghornref18_product.l1 : Nat → List Int → List Int → List Int → Int → Int → Option (List Int)
  | 0, _, _, _, _, _ => none
  | k + 1, x0, x1, x5, x6, x7 => if x7 < (x1.length : Int) then (if 0 ≤ (wrap64 (x6 + x7)) then (if (wrap64 (x6 + x7)) < (x5.length : Int) then (if 0 ≤ x6 then (if x6 < (x0.length : Int) then (if 0 ≤ x7 then ((foghornref18_Times.f k (rd x0 x6) (rd x1 x7)).bind fun t363 => (foghornref18_product.l1 k x0 x1 (x5.set ((wrap64 (x6 + x7)) : Int).toNat (Go.bits .xor .u8 (rd x5 (wrap64 (x6 + x7))) t363)) x6 (wrap64 (x7 + 1)))) else (none)) else (none)) else (none)) else (none)) else (none)) else (foghornref18_product.l0 k x0 x1 x5 (wrap64 (x6 + 1)))
end
def foghornref18_product.f (k : Nat) (l0 : List Int) (l1 : List Int) : Option (List Int) := if 0 ≤ (wrap64 ((l0.length : Int) + (l1.length : Int))) then (if (wrap64 ((l0.length : Int) + (l1.length : Int)) : Int).toNat ≤ 281474976710656 then (foghornref18_product.l0 k l0 l1 (List.replicate (wrap64 ((l0.length : Int) + (l1.length : Int)) : Int).toNat 0) 0) else (none)) else (none)
theorem foghornref18_product.mono_l : ∀ k, (∀ y0 y1 y2 y3, LeO (foghornref18_product.l0 k y0 y1 y2 y3) (foghornref18_product.l0 (k + 1) y0 y1 y2 y3)) ∧ (∀ y0 y1 y2 y3 y4, LeO (foghornref18_product.l1 k y0 y1 y2 y3 y4) (foghornref18_product.l1 (k + 1) y0 y1 y2 y3 y4))
  | 0 => ⟨fun _ _ _ _ r h => by simp [foghornref18_product.l0] at h, fun _ _ _ _ _ r h => by simp [foghornref18_product.l1] at h⟩
  | k + 1 => by
    obtain ⟨ih0, ih1⟩ := foghornref18_product.mono_l k
    refine ⟨?_, ?_⟩
    · intro y0 y1 y2 y3
      unfold foghornref18_product.l0
      repeat' first
      | (with_reducible exact ih0 _ _ _ _)
      | (with_reducible exact ih1 _ _ _ _ _)
      | (with_reducible exact foghornref18_Times.mono _ _ _)
      | (with_reducible exact foghornref18_Trim.mono _ _)
      | (with_reducible exact LeO.refl _)
      | (with_reducible exact LeO.none _)
      | (with_reducible refine LeO.ite ?_ ?_)
      | (with_reducible refine LeO.bind ?_ (fun _ => ?_))
      | exact ih0 _ _ _ _
      | exact ih1 _ _ _ _ _
      | exact foghornref18_Times.mono _ _ _
      | exact foghornref18_Trim.mono _ _
      | exact LeO.none _
      | refine LeO.ite ?_ ?_
      | refine LeO.bind ?_ (fun _ => ?_)
    · intro y0 y1 y2 y3 y4
      unfold foghornref18_product.l1
      repeat' first
      | (with_reducible exact ih0 _ _ _ _)
      | (with_reducible exact ih1 _ _ _ _ _)
      | (with_reducible exact foghornref18_Times.mono _ _ _)
      | (with_reducible exact foghornref18_Trim.mono _ _)
      | (with_reducible exact LeO.refl _)
      | (with_reducible exact LeO.none _)
      | (with_reducible refine LeO.ite ?_ ?_)
      | (with_reducible refine LeO.bind ?_ (fun _ => ?_))
      | exact ih0 _ _ _ _
      | exact ih1 _ _ _ _ _
      | exact foghornref18_Times.mono _ _ _
      | exact foghornref18_Trim.mono _ _
      | exact LeO.none _
      | refine LeO.ite ?_ ?_
      | refine LeO.bind ?_ (fun _ => ?_)
theorem foghornref18_product.mono : ∀ a0 a1 k, LeO (foghornref18_product.f k a0 a1) (foghornref18_product.f (k + 1) a0 a1) := by
  intro a0 a1 k
  obtain ⟨ih0, ih1⟩ := foghornref18_product.mono_l k
  unfold foghornref18_product.f
  repeat' first
      | (with_reducible exact ih0 _ _ _ _)
      | (with_reducible exact ih1 _ _ _ _ _)
      | (with_reducible exact foghornref18_Times.mono _ _ _)
      | (with_reducible exact foghornref18_Trim.mono _ _)
      | (with_reducible exact LeO.refl _)
      | (with_reducible exact LeO.none _)
      | (with_reducible refine LeO.ite ?_ ?_)
      | (with_reducible refine LeO.bind ?_ (fun _ => ?_))
      | exact ih0 _ _ _ _
      | exact ih1 _ _ _ _ _
      | exact foghornref18_Times.mono _ _ _
      | exact foghornref18_Trim.mono _ _
      | exact LeO.none _
      | refine LeO.ite ?_ ?_
      | refine LeO.bind ?_ (fun _ => ?_)
def foghornref18_product.T8 : Bool × List (List Nat × List Nat) := (true, [([], []), ([], []), ([], []), ([1, 2], [1, 2]), ([], []), ([], []), ([], []), ([5, 6], [5, 6]), ([4, 7], [4, 7]), ([8], [8]), ([], []), ([], []), ([10, 11], [10, 11]), ([12], [12]), ([], []), ([], []), ([14, 15], [14, 15]), ([16], [16]), ([13, 17], [13, 17]), ([9, 18], [9, 18]), ([0, 3, 0, 1, 2, 3, 4, 5, 6, 7, 8, 9, 10, 11, 12, 13, 14, 15, 16, 17, 18, 19], [0, 3]), ([20, 19, 18, 0, 1, 2, 3, 4, 5, 6, 7, 8, 9, 10, 11, 12, 13, 14, 15, 16, 17, 18, 19], [19, 20])])
def foghornref18_product.B8 : List Nat := [0, 0, 0, 6, 0, 0, 0, 96, 240, 496, 0, 0, 3072, 7168, 0, 0, 49152, 114688, 261120, 524272, 1048575, 2097151]
theorem foghornref18_product.tab8 : rtab .any (opsOf Try.f72 8) = foghornref18_product.T8 := by kernel_rfl
theorem foghornref18_product.bits8 : waitsOk foghornref18_product.T8.2 foghornref18_product.B8 = true := by kernel_rfl

/-! ### foghornref18_at: function 73 -/
def foghornref18_at.l0 : Nat → List Int → Int → Int → Int → Option (Int)
  | 0, _, _, _, _ => none
  | k + 1, x0, x1, x5, x6 => if x6 ≥ 0 then ((foghornref18_Times.f k x5 x1).bind fun t365 => (if 0 ≤ x6 then (if x6 < (x0.length : Int) then (foghornref18_at.l0 k x0 x1 (Go.bits .xor .u8 t365 (rd x0 x6)) (wrap64 (x6 - 1))) else (none)) else (none))) else (some x5)
def foghornref18_at.f (k : Nat) (l0 : List Int) (a1 : Int) : Option (Int) := foghornref18_at.l0 k l0 a1 0 (wrap64 ((l0.length : Int) - 1))
theorem foghornref18_at.mono_l : ∀ k, (∀ y0 y1 y2 y3, LeO (foghornref18_at.l0 k y0 y1 y2 y3) (foghornref18_at.l0 (k + 1) y0 y1 y2 y3))
  | 0 => fun _ _ _ _ r h => by simp [foghornref18_at.l0] at h
  | k + 1 => by
    have ih0 := foghornref18_at.mono_l k
    · intro y0 y1 y2 y3
      unfold foghornref18_at.l0
      repeat' first
      | (with_reducible exact ih0 _ _ _ _)
      | (with_reducible exact foghornref18_Times.mono _ _ _)
      | (with_reducible exact LeO.refl _)
      | (with_reducible exact LeO.none _)
      | (with_reducible refine LeO.ite ?_ ?_)
      | (with_reducible refine LeO.bind ?_ (fun _ => ?_))
      | exact ih0 _ _ _ _
      | exact foghornref18_Times.mono _ _ _
      | exact LeO.none _
      | refine LeO.ite ?_ ?_
      | refine LeO.bind ?_ (fun _ => ?_)
theorem foghornref18_at.mono : ∀ a0 a1 k, LeO (foghornref18_at.f k a0 a1) (foghornref18_at.f (k + 1) a0 a1) := by
  intro a0 a1 k
  have ih0 := foghornref18_at.mono_l k
  unfold foghornref18_at.f
  repeat' first
      | (with_reducible exact ih0 _ _ _ _)
      | (with_reducible exact foghornref18_Times.mono _ _ _)
      | (with_reducible exact LeO.refl _)
      | (with_reducible exact LeO.none _)
      | (with_reducible refine LeO.ite ?_ ?_)
      | (with_reducible refine LeO.bind ?_ (fun _ => ?_))
      | exact ih0 _ _ _ _
      | exact foghornref18_Times.mono _ _ _
      | exact LeO.none _
      | refine LeO.ite ?_ ?_
      | refine LeO.bind ?_ (fun _ => ?_)

/-! ### foghornref18_may: function 95 -/
def foghornref18_may.f (l0 : List Int) (l1 : List Int) : Option (Bool) := if (l0.length : Int) ≤ 512 then (some (decide ((l1.length : Int) ≤ 512))) else (some false)

/-! ### foghornref18_Sum: function 74 -/
mutual
def foghornref18_Sum.l0 : Nat → List Int → List Int → List Int → Int → Option (List Int × Int)
  | 0, _, _, _, _ => none
  | k + 1, x0, x1, x6, x7 => if x7 < (x0.length : Int) then (if 0 ≤ x7 then (if x7 < (x6.length : Int) then (foghornref18_Sum.l0 k x0 x1 (x6.set (x7 : Int).toNat (rd x0 x7)) (wrap64 (x7 + 1))) else (none)) else (none)) else (foghornref18_Sum.l1 k x1 x6 0)
def foghornref18_Sum.l1 : Nat → List Int → List Int → Int → Option (List Int × Int)
  | 0, _, _, _ => none
  | k + 1, x1, x6, x8 => if x8 < (x1.length : Int) then (if 0 ≤ x8 then (if x8 < (x6.length : Int) then (foghornref18_Sum.l1 k x1 (x6.set (x8 : Int).toNat (Go.bits .xor .u8 (rd x6 x8) (rd x1 x8))) (wrap64 (x8 + 1))) else (none)) else (none)) else ((foghornref18_Trim.f k x6).bind fun t376 => (some (t376, 0)))
end
def foghornref18_Sum.f (k : Nat) (l0 : List Int) (l1 : List Int) : Option (List Int × Int) := (foghornref18_may.f l0 l1).bind fun t367 => (if t367 = true then (if 0 ≤ (mx (l0.length : Int) (l1.length : Int)) then (if (mx (l0.length : Int) (l1.length : Int) : Int).toNat ≤ 281474976710656 then (foghornref18_Sum.l0 k l0 l1 (List.replicate (mx (l0.length : Int) (l1.length : Int) : Int).toNat 0) 0) else (none)) else (none)) else (some (([] : List Int), 1)))
theorem foghornref18_Sum.mono_l : ∀ k, (∀ y0 y1 y2 y3, LeO (foghornref18_Sum.l0 k y0 y1 y2 y3) (foghornref18_Sum.l0 (k + 1) y0 y1 y2 y3)) ∧ (∀ y0 y1 y2, LeO (foghornref18_Sum.l1 k y0 y1 y2) (foghornref18_Sum.l1 (k + 1) y0 y1 y2))
  | 0 => ⟨fun _ _ _ _ r h => by simp [foghornref18_Sum.l0] at h, fun _ _ _ r h => by simp [foghornref18_Sum.l1] at h⟩
  | k + 1 => by
    obtain ⟨ih0, ih1⟩ := foghornref18_Sum.mono_l k
    refine ⟨?_, ?_⟩
    · intro y0 y1 y2 y3
      unfold foghornref18_Sum.l0
      repeat' first
      | (with_reducible exact ih0 _ _ _ _)
      | (with_reducible exact ih1 _ _ _)
      | (with_reducible exact foghornref18_Trim.mono _ _)
      | (with_reducible exact LeO.refl _)
      | (with_reducible exact LeO.none _)
      | (with_reducible refine LeO.ite ?_ ?_)
      | (with_reducible refine LeO.bind ?_ (fun _ => ?_))
      | exact ih0 _ _ _ _
      | exact ih1 _ _ _
      | exact foghornref18_Trim.mono _ _
      | exact LeO.none _
      | refine LeO.ite ?_ ?_
      | refine LeO.bind ?_ (fun _ => ?_)
    · intro y0 y1 y2
      unfold foghornref18_Sum.l1
      repeat' first
      | (with_reducible exact ih0 _ _ _ _)
      | (with_reducible exact ih1 _ _ _)
      | (with_reducible exact foghornref18_Trim.mono _ _)
      | (with_reducible exact LeO.refl _)
      | (with_reducible exact LeO.none _)
      | (with_reducible refine LeO.ite ?_ ?_)
      | (with_reducible refine LeO.bind ?_ (fun _ => ?_))
      | exact ih0 _ _ _ _
      | exact ih1 _ _ _
      | exact foghornref18_Trim.mono _ _
      | exact LeO.none _
      | refine LeO.ite ?_ ?_
      | refine LeO.bind ?_ (fun _ => ?_)
theorem foghornref18_Sum.mono : ∀ a0 a1 k, LeO (foghornref18_Sum.f k a0 a1) (foghornref18_Sum.f (k + 1) a0 a1) := by
  intro a0 a1 k
  obtain ⟨ih0, ih1⟩ := foghornref18_Sum.mono_l k
  unfold foghornref18_Sum.f
  repeat' first
      | (with_reducible exact ih0 _ _ _ _)
      | (with_reducible exact ih1 _ _ _)
      | (with_reducible exact foghornref18_Trim.mono _ _)
      | (with_reducible exact LeO.refl _)
      | (with_reducible exact LeO.none _)
      | (with_reducible refine LeO.ite ?_ ?_)
      | (with_reducible refine LeO.bind ?_ (fun _ => ?_))
      | exact ih0 _ _ _ _
      | exact ih1 _ _ _
      | exact foghornref18_Trim.mono _ _
      | exact LeO.none _
      | refine LeO.ite ?_ ?_
      | refine LeO.bind ?_ (fun _ => ?_)
def foghornref18_Sum.T11 : Bool × List (List Nat × List Nat) := (true, [([], []), ([], []), ([], []), ([], []), ([2, 3], [2, 3]), ([4], [4]), ([], []), ([], []), ([6, 7], [6, 7]), ([8], [8]), ([5, 9], [5, 9]), ([0, 1, 0, 1, 2, 3, 4, 5, 6, 7, 8, 9, 10], [0, 1]), ([11, 10, 0, 1, 2, 3, 4, 5, 6, 7, 8, 9, 10], [10, 11])])
def foghornref18_Sum.B11 : List Nat := [0, 0, 0, 0, 12, 28, 0, 0, 192, 448, 1020, 2047, 4095]
theorem foghornref18_Sum.tab11 : rtab .any (opsOf Try.f74 11) = foghornref18_Sum.T11 := by kernel_rfl
theorem foghornref18_Sum.bits11 : waitsOk foghornref18_Sum.T11.2 foghornref18_Sum.B11 = true := by kernel_rfl

/-! ### foghornref18_Through: function 34 -/
mutual
def foghornref18_Through.l0 : Nat → List (S44) → List Bool → Int → Option (List Int × Int)
  | 0, _, _, _ => none
  | k + 1, x0, x4, x5 => if x5 < (x0.length : Int) then (if 0 ≤ x5 then (if 0 ≤ ((rd_T44 x0 x5).f0) then (if ((rd_T44 x0 x5).f0) < 256 then (if ((rd_T44 x0 x5).f0) < (x4.length : Int) then (if rdOf false x4 ((rd_T44 x0 x5).f0) = true then (some (([] : List Int), 1)) else (foghornref18_Through.l0 k x0 (x4.set (((rd_T44 x0 x5).f0) : Int).toNat true) (wrap64 (x5 + 1)))) else (none)) else (none)) else (none)) else (none)) else (foghornref18_Through.l1 k x0 ([] : List Int) 0)
def foghornref18_Through.l1 : Nat → List (S44) → List Int → Int → Option (List Int × Int)
  | 0, _, _, _ => none
  | k + 1, x0, x6, x7 => if x7 < (x0.length : Int) then (foghornref18_Through.l2 k x0 x6 x7 (([1] : List Int)) 0) else ((foghornref18_Trim.f k x6).bind fun t386 => (some (t386, 0)))
def foghornref18_Through.l2 : Nat → List (S44) → List Int → Int → List Int → Int → Option (List Int × Int)
  | 0, _, _, _, _, _ => none
  | k + 1, x0, x6, x7, x8, x9 => if x9 < (x0.length : Int) then (if x9 = x7 then (foghornref18_Through.l2 k x0 x6 x7 x8 (wrap64 (x9 + 1))) else (if 0 ≤ x9 then ((foghornref18_product.f k x8 (([(rd_T44 x0 x9).f0, 1] : List Int))).bind fun t396 => (foghornref18_Through.l2 k x0 x6 x7 t396 (wrap64 (x9 + 1)))) else (none))) else (if 0 ≤ x7 then (if x7 < (x0.length : Int) then ((foghornref18_at.f k x8 ((rd_T44 x0 x7).f0)).bind fun t401 => ((foghornref18_Over.f k ((rd_T44 x0 x7).f1) t401).bind fun bt402 => ((foghornref18_product.f k x8 (([bt402.1] : List Int))).bind fun t407 => ((foghornref18_Sum.f k x6 t407).bind fun bt410 => (foghornref18_Through.l1 k x0 bt410.1 (wrap64 (x7 + 1))))))) else (none)) else (none))
end
def foghornref18_Through.f (k : Nat) (l0 : List (S44)) : Option (List Int × Int) := if (l0.length : Int) > 256 then (some (([] : List Int), 1)) else (foghornref18_Through.l0 k l0 (List.replicate 256 false) 0)
theorem foghornref18_Through.mono_l : ∀ k, (∀ y0 y1 y2, LeO (foghornref18_Through.l0 k y0 y1 y2) (foghornref18_Through.l0 (k + 1) y0 y1 y2)) ∧ (∀ y0 y1 y2, LeO (foghornref18_Through.l1 k y0 y1 y2) (foghornref18_Through.l1 (k + 1) y0 y1 y2)) ∧ (∀ y0 y1 y2 y3 y4, LeO (foghornref18_Through.l2 k y0 y1 y2 y3 y4) (foghornref18_Through.l2 (k + 1) y0 y1 y2 y3 y4))
  | 0 => ⟨fun _ _ _ r h => by simp [foghornref18_Through.l0] at h, fun _ _ _ r h => by simp [foghornref18_Through.l1] at h, fun _ _ _ _ _ r h => by simp [foghornref18_Through.l2] at h⟩
  | k + 1 => by
    obtain ⟨ih0, ih1, ih2⟩ := foghornref18_Through.mono_l k
    refine ⟨?_, ?_, ?_⟩
    · intro y0 y1 y2
      unfold foghornref18_Through.l0
      repeat' first
      | (with_reducible exact ih0 _ _ _)
      | (with_reducible exact ih1 _ _ _)
      | (with_reducible exact ih2 _ _ _ _ _)
      | (with_reducible exact foghornref18_Over.mono _ _ _)
      | (with_reducible exact foghornref18_Sum.mono _ _ _)
      | (with_reducible exact foghornref18_Trim.mono _ _)
      | (with_reducible exact foghornref18_at.mono _ _ _)
      | (with_reducible exact foghornref18_product.mono _ _ _)
      | (with_reducible exact LeO.refl _)
      | (with_reducible exact LeO.none _)
      | (with_reducible refine LeO.ite ?_ ?_)
      | (with_reducible refine LeO.bind ?_ (fun _ => ?_))
      | exact ih0 _ _ _
      | exact ih1 _ _ _
      | exact ih2 _ _ _ _ _
      | exact foghornref18_Over.mono _ _ _
      | exact foghornref18_Sum.mono _ _ _
      | exact foghornref18_Trim.mono _ _
      | exact foghornref18_at.mono _ _ _
      | exact foghornref18_product.mono _ _ _
      | exact LeO.none _
      | refine LeO.ite ?_ ?_
      | refine LeO.bind ?_ (fun _ => ?_)
    · intro y0 y1 y2
      unfold foghornref18_Through.l1
      repeat' first
      | (with_reducible exact ih0 _ _ _)
      | (with_reducible exact ih1 _ _ _)
      | (with_reducible exact ih2 _ _ _ _ _)
      | (with_reducible exact foghornref18_Over.mono _ _ _)
      | (with_reducible exact foghornref18_Sum.mono _ _ _)
      | (with_reducible exact foghornref18_Trim.mono _ _)
      | (with_reducible exact foghornref18_at.mono _ _ _)
      | (with_reducible exact foghornref18_product.mono _ _ _)
      | (with_reducible exact LeO.refl _)
      | (with_reducible exact LeO.none _)
      | (with_reducible refine LeO.ite ?_ ?_)
      | (with_reducible refine LeO.bind ?_ (fun _ => ?_))
      | exact ih0 _ _ _
      | exact ih1 _ _ _
      | exact ih2 _ _ _ _ _
      | exact foghornref18_Over.mono _ _ _
      | exact foghornref18_Sum.mono _ _ _
      | exact foghornref18_Trim.mono _ _
      | exact foghornref18_at.mono _ _ _
      | exact foghornref18_product.mono _ _ _
      | exact LeO.none _
      | refine LeO.ite ?_ ?_
      | refine LeO.bind ?_ (fun _ => ?_)
    · intro y0 y1 y2 y3 y4
      unfold foghornref18_Through.l2
      repeat' first
      | (with_reducible exact ih0 _ _ _)
      | (with_reducible exact ih1 _ _ _)
      | (with_reducible exact ih2 _ _ _ _ _)
      | (with_reducible exact foghornref18_Over.mono _ _ _)
      | (with_reducible exact foghornref18_Sum.mono _ _ _)
      | (with_reducible exact foghornref18_Trim.mono _ _)
      | (with_reducible exact foghornref18_at.mono _ _ _)
      | (with_reducible exact foghornref18_product.mono _ _ _)
      | (with_reducible exact LeO.refl _)
      | (with_reducible exact LeO.none _)
      | (with_reducible refine LeO.ite ?_ ?_)
      | (with_reducible refine LeO.bind ?_ (fun _ => ?_))
      | exact ih0 _ _ _
      | exact ih1 _ _ _
      | exact ih2 _ _ _ _ _
      | exact foghornref18_Over.mono _ _ _
      | exact foghornref18_Sum.mono _ _ _
      | exact foghornref18_Trim.mono _ _
      | exact foghornref18_at.mono _ _ _
      | exact foghornref18_product.mono _ _ _
      | exact LeO.none _
      | refine LeO.ite ?_ ?_
      | refine LeO.bind ?_ (fun _ => ?_)
theorem foghornref18_Through.mono : ∀ a0 k, LeO (foghornref18_Through.f k a0) (foghornref18_Through.f (k + 1) a0) := by
  intro a0 k
  obtain ⟨ih0, ih1, ih2⟩ := foghornref18_Through.mono_l k
  unfold foghornref18_Through.f
  repeat' first
      | (with_reducible exact ih0 _ _ _)
      | (with_reducible exact ih1 _ _ _)
      | (with_reducible exact ih2 _ _ _ _ _)
      | (with_reducible exact foghornref18_Over.mono _ _ _)
      | (with_reducible exact foghornref18_Sum.mono _ _ _)
      | (with_reducible exact foghornref18_Trim.mono _ _)
      | (with_reducible exact foghornref18_at.mono _ _ _)
      | (with_reducible exact foghornref18_product.mono _ _ _)
      | (with_reducible exact LeO.refl _)
      | (with_reducible exact LeO.none _)
      | (with_reducible refine LeO.ite ?_ ?_)
      | (with_reducible refine LeO.bind ?_ (fun _ => ?_))
      | exact ih0 _ _ _
      | exact ih1 _ _ _
      | exact ih2 _ _ _ _ _
      | exact foghornref18_Over.mono _ _ _
      | exact foghornref18_Sum.mono _ _ _
      | exact foghornref18_Trim.mono _ _
      | exact foghornref18_at.mono _ _ _
      | exact foghornref18_product.mono _ _ _
      | exact LeO.none _
      | refine LeO.ite ?_ ?_
      | refine LeO.bind ?_ (fun _ => ?_)

/-! ### foghornlaw18_FieldThrough: function 6 -/
mutual
def foghornlaw18_FieldThrough.j1 : Nat → Bool → List (S45) → List (S44) → Option (Bool)
  | 0, _, _, _ => none
  | k + 1, x1, x5, x6 => if x5.length < 70368744177664 then ((some (x5 ++ [(⟨7, 77⟩ : S45)] : List (S45))).bind fun y423 => (if 0 ≤ (x6.length : Int) then (if (x6.length : Int) ≤ (y423.length : Int) then ((field_Through.f k (y423.take ((x6.length : Int) : Int).toNat)).bind fun bt430 => ((foghornref18_Through.f k x6).bind fun bt434 => (if bt430.2 = bt434.2 then ((foghornref18_Same.f k bt430.1 bt434.1).bind fun t438 => (if t438 = true then (if (x6.length : Int) < (y423.length : Int) then (foghornlaw18_FieldThrough.j2 k x1 y423 x6 (((rd_T45 y423 (x6.length : Int)).f1) != 77)) else (none)) else (foghornlaw18_FieldThrough.j2 k x1 y423 x6 true))) else (foghornlaw18_FieldThrough.j2 k x1 y423 x6 true)))) else (none)) else (none))) else (none)
def foghornlaw18_FieldThrough.j2 : Nat → Bool → List (S45) → List (S44) → Bool → Option (Bool)
  | 0, _, _, _, _ => none
  | k + 1, x1, x5, x6, x80 => if x80 = true then (some false) else (foghornlaw18_FieldThrough.l1 k x1 x5 x6 0)
def foghornlaw18_FieldThrough.l1 : Nat → Bool → List (S45) → List (S44) → Int → Option (Bool)
  | 0, _, _, _, _ => none
  | k + 1, x1, x5, x6, x12 => if x12 < (x6.length : Int) then (if 0 ≤ x12 then (if x12 < (x5.length : Int) then (if ((rd_T45 x5 x12).f0) = ((rd_T44 x6 x12).f0) then (if ((rd_T45 x5 x12).f1) = ((rd_T44 x6 x12).f1) then (foghornlaw18_FieldThrough.l1 k x1 x5 x6 (wrap64 (x12 + 1))) else (some false)) else (some false)) else (none)) else (none)) else (if x1 = true then (if 257 ≤ 140737488355328 then ((field_Through.f k (List.replicate 257 z45)).bind fun bt447 => (if bt447.2 = 1 then ((foghornlaw18_awake.f k).bind fun t451 => (some t451)) else (some false))) else (none)) else ((foghornlaw18_awake.f k).bind fun t452 => (some t452)))
def foghornlaw18_FieldThrough.l0 : Nat → List (S44) → Bool → List (S45) → List (S44) → Int → Option (Bool)
  | 0, _, _, _, _, _ => none
  | k + 1, x0, x1, x5, x6, x7 => if x7 < (x0.length : Int) then (if x7 < 40 then (if 0 ≤ x7 then (if x5.length < 70368744177664 then (if x6.length < 70368744177664 then (foghornlaw18_FieldThrough.l0 k x0 x1 (x5 ++ [(⟨(rd_T44 x0 x7).f0, (rd_T44 x0 x7).f1⟩ : S45)]) (x6 ++ [(⟨(rd_T44 x0 x7).f0, (rd_T44 x0 x7).f1⟩ : S44)]) (wrap64 (x7 + 1))) else (none)) else (none)) else (none)) else (foghornlaw18_FieldThrough.j1 k x1 x5 x6)) else (foghornlaw18_FieldThrough.j1 k x1 x5 x6)
end
def foghornlaw18_FieldThrough.f (k : Nat) (l0 : List (S44)) (a1 : Bool) : Option (Bool) := foghornlaw18_FieldThrough.l0 k l0 a1 ([] : List (S45)) ([] : List (S44)) 0
theorem foghornlaw18_FieldThrough.mono_l : ∀ k, (∀ y0 y1 y2, LeO (foghornlaw18_FieldThrough.j1 k y0 y1 y2) (foghornlaw18_FieldThrough.j1 (k + 1) y0 y1 y2)) ∧ (∀ y0 y1 y2 y3, LeO (foghornlaw18_FieldThrough.j2 k y0 y1 y2 y3) (foghornlaw18_FieldThrough.j2 (k + 1) y0 y1 y2 y3)) ∧ (∀ y0 y1 y2 y3, LeO (foghornlaw18_FieldThrough.l1 k y0 y1 y2 y3) (foghornlaw18_FieldThrough.l1 (k + 1) y0 y1 y2 y3)) ∧ (∀ y0 y1 y2 y3 y4, LeO (foghornlaw18_FieldThrough.l0 k y0 y1 y2 y3 y4) (foghornlaw18_FieldThrough.l0 (k + 1) y0 y1 y2 y3 y4))
  | 0 => ⟨fun _ _ _ r h => by simp [foghornlaw18_FieldThrough.j1] at h, fun _ _ _ _ r h => by simp [foghornlaw18_FieldThrough.j2] at h, fun _ _ _ _ r h => by simp [foghornlaw18_FieldThrough.l1] at h, fun _ _ _ _ _ r h => by simp [foghornlaw18_FieldThrough.l0] at h⟩
  | k + 1 => by
    obtain ⟨ih0, ih1, ih2, ih3⟩ := foghornlaw18_FieldThrough.mono_l k
    refine ⟨?_, ?_, ?_, ?_⟩
    · intro y0 y1 y2
      unfold foghornlaw18_FieldThrough.j1
      repeat' first
      | (with_reducible exact ih0 _ _ _)
      | (with_reducible exact ih1 _ _ _ _)
      | (with_reducible exact ih2 _ _ _ _)
      | (with_reducible exact ih3 _ _ _ _ _)
      | (with_reducible exact field_Through.mono _ _)
      | (with_reducible exact foghornlaw18_awake.mono _)
      | (with_reducible exact foghornref18_Same.mono _ _ _)
      | (with_reducible exact foghornref18_Through.mono _ _)
      | (with_reducible exact LeO.refl _)
      | (with_reducible exact LeO.none _)
      | (with_reducible refine LeO.ite ?_ ?_)
      | (with_reducible refine LeO.bind ?_ (fun _ => ?_))
      | exact ih0 _ _ _
      | exact ih1 _ _ _ _
      | exact ih2 _ _ _ _
      | exact ih3 _ _ _ _ _
      | exact field_Through.mono _ _
      | exact foghornlaw18_awake.mono _
      | exact foghornref18_Same.mono _ _ _
      | exact foghornref18_Through.mono _ _
      | exact LeO.none _
      | refine LeO.ite ?_ ?_
      | refine LeO.bind ?_ (fun _ => ?_)
    · intro y0 y1 y2 y3
      unfold foghornlaw18_FieldThrough.j2
      repeat' first
      | (with_reducible exact ih0 _ _ _)
      | (with_reducible exact ih1 _ _ _ _)
      | (with_reducible exact ih2 _ _ _ _)
      | (with_reducible exact ih3 _ _ _ _ _)
      | (with_reducible exact field_Through.mono _ _)
      | (with_reducible exact foghornlaw18_awake.mono _)
      | (with_reducible exact foghornref18_Same.mono _ _ _)
      | (with_reducible exact foghornref18_Through.mono _ _)
      | (with_reducible exact LeO.refl _)
      | (with_reducible exact LeO.none _)
      | (with_reducible refine LeO.ite ?_ ?_)
      | (with_reducible refine LeO.bind ?_ (fun _ => ?_))
      | exact ih0 _ _ _
      | exact ih1 _ _ _ _
      | exact ih2 _ _ _ _
      | exact ih3 _ _ _ _ _
      | exact field_Through.mono _ _
      | exact foghornlaw18_awake.mono _
      | exact foghornref18_Same.mono _ _ _
      | exact foghornref18_Through.mono _ _
      | exact LeO.none _
      | refine LeO.ite ?_ ?_
      | refine LeO.bind ?_ (fun _ => ?_)
    · intro y0 y1 y2 y3
      unfold foghornlaw18_FieldThrough.l1
      repeat' first
      | (with_reducible exact ih0 _ _ _)
      | (with_reducible exact ih1 _ _ _ _)
      | (with_reducible exact ih2 _ _ _ _)
      | (with_reducible exact ih3 _ _ _ _ _)
      | (with_reducible exact field_Through.mono _ _)
      | (with_reducible exact foghornlaw18_awake.mono _)
      | (with_reducible exact foghornref18_Same.mono _ _ _)
      | (with_reducible exact foghornref18_Through.mono _ _)
      | (with_reducible exact LeO.refl _)
      | (with_reducible exact LeO.none _)
      | (with_reducible refine LeO.ite ?_ ?_)
      | (with_reducible refine LeO.bind ?_ (fun _ => ?_))
      | exact ih0 _ _ _
      | exact ih1 _ _ _ _
      | exact ih2 _ _ _ _
      | exact ih3 _ _ _ _ _
      | exact field_Through.mono _ _
      | exact foghornlaw18_awake.mono _
      | exact foghornref18_Same.mono _ _ _
      | exact foghornref18_Through.mono _ _
      | exact LeO.none _
      | refine LeO.ite ?_ ?_
      | refine LeO.bind ?_ (fun _ => ?_)
    · intro y0 y1 y2 y3 y4
      unfold foghornlaw18_FieldThrough.l0
      repeat' first
      | (with_reducible exact ih0 _ _ _)
      | (with_reducible exact ih1 _ _ _ _)
      | (with_reducible exact ih2 _ _ _ _)
      | (with_reducible exact ih3 _ _ _ _ _)
      | (with_reducible exact field_Through.mono _ _)
      | (with_reducible exact foghornlaw18_awake.mono _)
      | (with_reducible exact foghornref18_Same.mono _ _ _)
      | (with_reducible exact foghornref18_Through.mono _ _)
      | (with_reducible exact LeO.refl _)
      | (with_reducible exact LeO.none _)
      | (with_reducible refine LeO.ite ?_ ?_)
      | (with_reducible refine LeO.bind ?_ (fun _ => ?_))
      | exact ih0 _ _ _
      | exact ih1 _ _ _ _
      | exact ih2 _ _ _ _
      | exact ih3 _ _ _ _ _
      | exact field_Through.mono _ _
      | exact foghornlaw18_awake.mono _
      | exact foghornref18_Same.mono _ _ _
      | exact foghornref18_Through.mono _ _
      | exact LeO.none _
      | refine LeO.ite ?_ ?_
      | refine LeO.bind ?_ (fun _ => ?_)
theorem foghornlaw18_FieldThrough.mono : ∀ a0 a1 k, LeO (foghornlaw18_FieldThrough.f k a0 a1) (foghornlaw18_FieldThrough.f (k + 1) a0 a1) := by
  intro a0 a1 k
  obtain ⟨ih0, ih1, ih2, ih3⟩ := foghornlaw18_FieldThrough.mono_l k
  unfold foghornlaw18_FieldThrough.f
  repeat' first
      | (with_reducible exact ih0 _ _ _)
      | (with_reducible exact ih1 _ _ _ _)
      | (with_reducible exact ih2 _ _ _ _)
      | (with_reducible exact ih3 _ _ _ _ _)
      | (with_reducible exact field_Through.mono _ _)
      | (with_reducible exact foghornlaw18_awake.mono _)
      | (with_reducible exact foghornref18_Same.mono _ _ _)
      | (with_reducible exact foghornref18_Through.mono _ _)
      | (with_reducible exact LeO.refl _)
      | (with_reducible exact LeO.none _)
      | (with_reducible refine LeO.ite ?_ ?_)
      | (with_reducible refine LeO.bind ?_ (fun _ => ?_))
      | exact ih0 _ _ _
      | exact ih1 _ _ _ _
      | exact ih2 _ _ _ _
      | exact ih3 _ _ _ _ _
      | exact field_Through.mono _ _
      | exact foghornlaw18_awake.mono _
      | exact foghornref18_Same.mono _ _ _
      | exact foghornref18_Through.mono _ _
      | exact LeO.none _
      | refine LeO.ite ?_ ?_
      | refine LeO.bind ?_ (fun _ => ?_)
def foghornlaw18_FieldThrough.T6 : Bool × List (List Nat × List Nat) := (true, [([], []), ([], []), ([], []), ([1, 2], [1, 2]), ([3], [3]), ([4], [4]), ([], []), ([], []), ([6, 7], [6, 7]), ([8], [8]), ([9], [9]), ([5, 10], [5, 10]), ([11], [11]), ([0, 12], [0, 12]), ([13, 13, 0, 1, 2, 3, 4, 5, 6, 7, 8, 9, 10, 11, 12, 13], [0, 13])])
def foghornlaw18_FieldThrough.B6 : List Nat := [0, 0, 0, 6, 14, 30, 0, 0, 192, 448, 960, 2046, 4094, 8191, 16383]
theorem foghornlaw18_FieldThrough.tab6 : rtab .any (opsOf Try.f6 6) = foghornlaw18_FieldThrough.T6 := by kernel_rfl
theorem foghornlaw18_FieldThrough.bits6 : waitsOk foghornlaw18_FieldThrough.T6.2 foghornlaw18_FieldThrough.B6 = true := by kernel_rfl
def foghornlaw18_FieldThrough.T16 : Bool × List (List Nat × List Nat) := (true, [([], []), ([], []), ([0, 1], [0, 1]), ([2], [2]), ([3], [3]), ([], []), ([], []), ([5, 6], [5, 6]), ([7], [7]), ([8], [8]), ([4, 9], [4, 9]), ([10], [10]), ([11], [11]), ([11], [11]), ([12, 13, 11], [11, 12, 13]), ([14, 11], [11, 14]), ([15, 11], [11, 15]), ([11], [11]), ([11], [11]), ([17, 18, 11], [11, 17, 18]), ([19, 11], [11, 19]), ([20, 11], [11, 20]), ([16, 21, 11], [11, 16, 21]), ([11, 22], [11, 22])])
def foghornlaw18_FieldThrough.B16 : List Nat := [0, 0, 3, 7, 15, 0, 0, 96, 224, 480, 1023, 2047, 4095, 4095, 16383, 32767, 65535, 4095, 4095, 397311, 921599, 1970175, 4194303, 8388607]
theorem foghornlaw18_FieldThrough.tab16 : rtab .any (opsOf Try.f6 16) = foghornlaw18_FieldThrough.T16 := by kernel_rfl
theorem foghornlaw18_FieldThrough.bits16 : waitsOk foghornlaw18_FieldThrough.T16.2 foghornlaw18_FieldThrough.B16 = true := by kernel_rfl
/-- THE ONE PURE STATEMENT of foghornlaw18_FieldThrough: ours. -/
def foghornlaw18_FieldThrough.Pure : Prop := ∀ (l0 : List (S44)) (a1 : Bool), (l0.length ≤ maxLen ∧ ∀ x ∈ l0, (fun y_ : S44 => ((Lit.int .u8 y_.f0).wf = true) ∧ ((Lit.int .u8 y_.f1).wf = true)) x) → ∃ k, foghornlaw18_FieldThrough.f k l0 a1 = some true

/-! ### reed_Syndromes: function 41 -/
mutual
def reed_Syndromes.l0 : Nat → ByteArray → List Int → Int → Int → Option (List Int × Int)
  | 0, _, _, _, _ => none
  | k + 1, x0, x6, x18, x19 => if x19 < x18 then ((field_Exp.f k x19).bind fun t465 => (reed_Syndromes.l1 k x0 x6 x19 t465 x18 x19 (x0.size : Int) 0)) else (some (x6, 0))
def reed_Syndromes.l1 : Nat → ByteArray → List Int → Int → Int → Int → Int → Int → Int → Option (List Int × Int)
  | 0, _, _, _, _, _, _, _, _ => none
  | k + 1, x0, x6, x7, x8, x18, x19, x25, x26 => if x26 < x25 then (if 0 ≤ x7 then (if x7 < (x6.length : Int) then ((field_Times.f k (rd x6 x7) x8).bind fun t467 => (if 0 ≤ x26 then (if x26 < (x0.size : Int) then (reed_Syndromes.l1 k x0 (x6.set (x7 : Int).toNat (Go.bits .xor .u8 t467 (bt x0 x26))) x7 x8 x18 x19 x25 (wrap64 (x26 + 1))) else (none)) else (none))) else (none)) else (none)) else (reed_Syndromes.l0 k x0 x6 x18 (wrap64 (x19 + 1)))
end
def reed_Syndromes.f (k : Nat) (a0 : ByteArray) (a1 : Int) : Option (List Int × Int) := (reed_Check.f (a0.size : Int) a1).bind fun t461 => (if t461 = 0 then (if 0 ≤ a1 then (if (a1 : Int).toNat ≤ 281474976710656 then ((some (List.replicate (a1 : Int).toNat 0 : List Int)).bind fun y462 => (reed_Syndromes.l0 k a0 y462 (y462.length : Int) 0)) else (none)) else (none)) else (some (([] : List Int), 1)))
theorem reed_Syndromes.mono_l : ∀ k, (∀ y0 y1 y2 y3, LeO (reed_Syndromes.l0 k y0 y1 y2 y3) (reed_Syndromes.l0 (k + 1) y0 y1 y2 y3)) ∧ (∀ y0 y1 y2 y3 y4 y5 y6 y7, LeO (reed_Syndromes.l1 k y0 y1 y2 y3 y4 y5 y6 y7) (reed_Syndromes.l1 (k + 1) y0 y1 y2 y3 y4 y5 y6 y7))
  | 0 => ⟨fun _ _ _ _ r h => by simp [reed_Syndromes.l0] at h, fun _ _ _ _ _ _ _ _ r h => by simp [reed_Syndromes.l1] at h⟩
  | k + 1 => by
    obtain ⟨ih0, ih1⟩ := reed_Syndromes.mono_l k
    refine ⟨?_, ?_⟩
    · intro y0 y1 y2 y3
      unfold reed_Syndromes.l0
      repeat' first
      | (with_reducible exact ih0 _ _ _ _)
      | (with_reducible exact ih1 _ _ _ _ _ _ _ _)
      | (with_reducible exact field_Exp.mono _ _)
      | (with_reducible exact field_Times.mono _ _ _)
      | (with_reducible exact LeO.refl _)
      | (with_reducible exact LeO.none _)
      | (with_reducible refine LeO.ite ?_ ?_)
      | (with_reducible refine LeO.bind ?_ (fun _ => ?_))
      | exact ih0 _ _ _ _
      | exact ih1 _ _ _ _ _ _ _ _
      | exact field_Exp.mono _ _
      | exact field_Times.mono _ _ _
      | exact LeO.none _
      | refine LeO.ite ?_ ?_
      | refine LeO.bind ?_ (fun _ => ?_)
    · intro y0 y1 y2 y3 y4 y5 y6 y7
      unfold reed_Syndromes.l1
      repeat' first
      | (with_reducible exact ih0 _ _ _ _)
      | (with_reducible exact ih1 _ _ _ _ _ _ _ _)
      | (with_reducible exact field_Exp.mono _ _)
      | (with_reducible exact field_Times.mono _ _ _)
      | (with_reducible exact LeO.refl _)
      | (with_reducible exact LeO.none _)
      | (with_reducible refine LeO.ite ?_ ?_)
      | (with_reducible refine LeO.bind ?_ (fun _ => ?_))
      | exact ih0 _ _ _ _
      | exact ih1 _ _ _ _ _ _ _ _
      | exact field_Exp.mono _ _
      | exact field_Times.mono _ _ _
      | exact LeO.none _
      | refine LeO.ite ?_ ?_
      | refine LeO.bind ?_ (fun _ => ?_)
theorem reed_Syndromes.mono : ∀ a0 a1 k, LeO (reed_Syndromes.f k a0 a1) (reed_Syndromes.f (k + 1) a0 a1) := by
  intro a0 a1 k
  obtain ⟨ih0, ih1⟩ := reed_Syndromes.mono_l k
  unfold reed_Syndromes.f
  repeat' first
      | (with_reducible exact ih0 _ _ _ _)
      | (with_reducible exact ih1 _ _ _ _ _ _ _ _)
      | (with_reducible exact field_Exp.mono _ _)
      | (with_reducible exact field_Times.mono _ _ _)
      | (with_reducible exact LeO.refl _)
      | (with_reducible exact LeO.none _)
      | (with_reducible refine LeO.ite ?_ ?_)
      | (with_reducible refine LeO.bind ?_ (fun _ => ?_))
      | exact ih0 _ _ _ _
      | exact ih1 _ _ _ _ _ _ _ _
      | exact field_Exp.mono _ _
      | exact field_Times.mono _ _ _
      | exact LeO.none _
      | refine LeO.ite ?_ ?_
      | refine LeO.bind ?_ (fun _ => ?_)
def reed_Syndromes.T11 : Bool × List (List Nat × List Nat) := (true, [([], []), ([], []), ([], []), ([], []), ([2, 3], [2, 3]), ([4], [4]), ([], []), ([5, 6], [5, 6]), ([], []), ([], []), ([8, 9], [8, 9]), ([7, 10], [7, 10]), ([0, 1, 0, 1, 2, 3, 4, 5, 6, 7, 8, 9, 10, 11], [0, 1]), ([12, 11, 7, 0, 1, 2, 3, 4, 5, 6, 7, 8, 9, 10, 11], [11, 12])])
def reed_Syndromes.B11 : List Nat := [0, 0, 0, 0, 12, 28, 0, 124, 0, 0, 768, 2044, 4095, 8191]
theorem reed_Syndromes.tab11 : rtab .any (opsOf Try.f41 11) = reed_Syndromes.T11 := by kernel_rfl
theorem reed_Syndromes.bits11 : waitsOk reed_Syndromes.T11.2 reed_Syndromes.B11 = true := by kernel_rfl

/-! ### reed_Whole: function 40 -/
def reed_Whole.l0 : Nat → List Int → Int → Int → Option (Bool × Int)
  | 0, _, _, _ => none
  | k + 1, x19, x20, x21 => if x21 < x20 then (if 0 ≤ x21 then (if x21 < (x19.length : Int) then (if (rd x19 x21) = 0 then (reed_Whole.l0 k x19 x20 (wrap64 (x21 + 1))) else (some (false, 0))) else (none)) else (none)) else (some (true, 0))
def reed_Whole.f (k : Nat) (a0 : ByteArray) (a1 : Int) : Option (Bool × Int) := (reed_Syndromes.f k a0 a1).bind fun bt469 => (if bt469.2 = 0 then (reed_Whole.l0 k bt469.1 (bt469.1.length : Int) 0) else (some (false, bt469.2)))
theorem reed_Whole.mono_l : ∀ k, (∀ y0 y1 y2, LeO (reed_Whole.l0 k y0 y1 y2) (reed_Whole.l0 (k + 1) y0 y1 y2))
  | 0 => fun _ _ _ r h => by simp [reed_Whole.l0] at h
  | k + 1 => by
    have ih0 := reed_Whole.mono_l k
    · intro y0 y1 y2
      unfold reed_Whole.l0
      repeat' first
      | (with_reducible exact ih0 _ _ _)
      | (with_reducible exact reed_Syndromes.mono _ _ _)
      | (with_reducible exact LeO.refl _)
      | (with_reducible exact LeO.none _)
      | (with_reducible refine LeO.ite ?_ ?_)
      | (with_reducible refine LeO.bind ?_ (fun _ => ?_))
      | exact ih0 _ _ _
      | exact reed_Syndromes.mono _ _ _
      | exact LeO.none _
      | refine LeO.ite ?_ ?_
      | refine LeO.bind ?_ (fun _ => ?_)
theorem reed_Whole.mono : ∀ a0 a1 k, LeO (reed_Whole.f k a0 a1) (reed_Whole.f (k + 1) a0 a1) := by
  intro a0 a1 k
  have ih0 := reed_Whole.mono_l k
  unfold reed_Whole.f
  repeat' first
      | (with_reducible exact ih0 _ _ _)
      | (with_reducible exact reed_Syndromes.mono _ _ _)
      | (with_reducible exact LeO.refl _)
      | (with_reducible exact LeO.none _)
      | (with_reducible refine LeO.ite ?_ ?_)
      | (with_reducible refine LeO.bind ?_ (fun _ => ?_))
      | exact ih0 _ _ _
      | exact reed_Syndromes.mono _ _ _
      | exact LeO.none _
      | refine LeO.ite ?_ ?_
      | refine LeO.bind ?_ (fun _ => ?_)

/-! ### foghornlaw19_fit: function 37 -/
def foghornlaw19_fit.f (a0 : ByteArray) (a1 : Int) : Option (ByteArray × Int) := if a0.toList = ([] : List UInt8) then (if 0 ≤ (mn 1 (wrap64 (255 - (wrap64 (2 + (wrap64 (2 * (wrap64 (Int.tmod (IntKind.u64.wrap (a1)) 32))))))))) then (if (mn 1 (wrap64 (255 - (wrap64 (2 + (wrap64 (2 * (wrap64 (Int.tmod (IntKind.u64.wrap (a1)) 32))))))))) ≤ 1 then (some ((⟨#[0]⟩ : ByteArray).extract 0 ((mn 1 (wrap64 (255 - (wrap64 (2 + (wrap64 (2 * (wrap64 (Int.tmod (IntKind.u64.wrap (a1)) 32))))))))) : Int).toNat, wrap64 (2 + (wrap64 (2 * (wrap64 (Int.tmod (IntKind.u64.wrap (a1)) 32))))))) else (none)) else (none)) else (if 0 ≤ (mn (a0.size : Int) (wrap64 (255 - (wrap64 (2 + (wrap64 (2 * (wrap64 (Int.tmod (IntKind.u64.wrap (a1)) 32))))))))) then (if (mn (a0.size : Int) (wrap64 (255 - (wrap64 (2 + (wrap64 (2 * (wrap64 (Int.tmod (IntKind.u64.wrap (a1)) 32))))))))) ≤ (a0.size : Int) then (some (a0.extract 0 ((mn (a0.size : Int) (wrap64 (255 - (wrap64 (2 + (wrap64 (2 * (wrap64 (Int.tmod (IntKind.u64.wrap (a1)) 32))))))))) : Int).toNat, wrap64 (2 + (wrap64 (2 * (wrap64 (Int.tmod (IntKind.u64.wrap (a1)) 32))))))) else (none)) else (none))

/-! ### foghornlaw19_over: function 39 -/
def foghornlaw19_over.l0 : Nat → ByteArray → ByteArray → List Int → Int → Option (ByteArray)
  | 0, _, _, _, _ => none
  | k + 1, x0, x1, x5, x6 => if x6 < (x0.size : Int) then (if x6 < (x1.size : Int) then (if 0 ≤ x6 then (if x5.length < 140737488355328 then (foghornlaw19_over.l0 k x0 x1 (x5 ++ [Go.bits .xor .u8 (bt x0 x6) (bt x1 x6)]) (wrap64 (x6 + 1))) else (none)) else (none)) else (some (strOfNums x5))) else (some (strOfNums x5))
def foghornlaw19_over.f (k : Nat) (a0 : ByteArray) (a1 : ByteArray) : Option (ByteArray) := foghornlaw19_over.l0 k a0 a1 ([] : List Int) 0
theorem foghornlaw19_over.mono_l : ∀ k, (∀ y0 y1 y2 y3, LeO (foghornlaw19_over.l0 k y0 y1 y2 y3) (foghornlaw19_over.l0 (k + 1) y0 y1 y2 y3))
  | 0 => fun _ _ _ _ r h => by simp [foghornlaw19_over.l0] at h
  | k + 1 => by
    have ih0 := foghornlaw19_over.mono_l k
    · intro y0 y1 y2 y3
      unfold foghornlaw19_over.l0
      repeat' first
      | (with_reducible exact ih0 _ _ _ _)
      | (with_reducible exact LeO.refl _)
      | (with_reducible exact LeO.none _)
      | (with_reducible refine LeO.ite ?_ ?_)
      | (with_reducible refine LeO.bind ?_ (fun _ => ?_))
      | exact ih0 _ _ _ _
      | exact LeO.none _
      | refine LeO.ite ?_ ?_
      | refine LeO.bind ?_ (fun _ => ?_)
theorem foghornlaw19_over.mono : ∀ a0 a1 k, LeO (foghornlaw19_over.f k a0 a1) (foghornlaw19_over.f (k + 1) a0 a1) := by
  intro a0 a1 k
  have ih0 := foghornlaw19_over.mono_l k
  unfold foghornlaw19_over.f
  repeat' first
      | (with_reducible exact ih0 _ _ _ _)
      | (with_reducible exact LeO.refl _)
      | (with_reducible exact LeO.none _)
      | (with_reducible refine LeO.ite ?_ ?_)
      | (with_reducible refine LeO.bind ?_ (fun _ => ?_))
      | exact ih0 _ _ _ _
      | exact LeO.none _
      | refine LeO.ite ?_ ?_
      | refine LeO.bind ?_ (fun _ => ?_)
def foghornlaw19_over.T5 : Bool × List (List Nat × List Nat) := (true, [([], []), ([], []), ([], []), ([1, 2], [1, 2]), ([], []), ([], []), ([4, 5], [4, 5]), ([3, 6], [3, 6]), ([7], [7]), ([0, 8], [0, 8]), ([9, 9, 0, 1, 2, 3, 4, 5, 6, 7, 8, 9], [0, 9])])
def foghornlaw19_over.B5 : List Nat := [0, 0, 0, 6, 0, 0, 48, 126, 254, 511, 1023]
theorem foghornlaw19_over.tab5 : rtab .any (opsOf Try.f39 5) = foghornlaw19_over.T5 := by kernel_rfl
theorem foghornlaw19_over.bits5 : waitsOk foghornlaw19_over.T5.2 foghornlaw19_over.B5 = true := by kernel_rfl

/-! ### reed_Apart: function 42 -/
def reed_Apart.l0 : Nat → ByteArray → ByteArray → Int → Int → Int → Option (Int × Int)
  | 0, _, _, _, _, _ => none
  | k + 1, x0, x1, x6, x14, x15 => if x15 < x14 then (if 0 ≤ x15 then (if x15 < (x0.size : Int) then (if x15 < (x1.size : Int) then (if (bt x0 x15) = (bt x1 x15) then (reed_Apart.l0 k x0 x1 x6 x14 (wrap64 (x15 + 1))) else (reed_Apart.l0 k x0 x1 (wrap64 (x6 + 1)) x14 (wrap64 (x15 + 1)))) else (none)) else (none)) else (none)) else (some (x6, 0))
def reed_Apart.f (k : Nat) (a0 : ByteArray) (a1 : ByteArray) : Option (Int × Int) := if (a0.size : Int) = (a1.size : Int) then (reed_Apart.l0 k a0 a1 0 (a0.size : Int) 0) else (some (0, 1))
theorem reed_Apart.mono_l : ∀ k, (∀ y0 y1 y2 y3 y4, LeO (reed_Apart.l0 k y0 y1 y2 y3 y4) (reed_Apart.l0 (k + 1) y0 y1 y2 y3 y4))
  | 0 => fun _ _ _ _ _ r h => by simp [reed_Apart.l0] at h
  | k + 1 => by
    have ih0 := reed_Apart.mono_l k
    · intro y0 y1 y2 y3 y4
      unfold reed_Apart.l0
      repeat' first
      | (with_reducible exact ih0 _ _ _ _ _)
      | (with_reducible exact LeO.refl _)
      | (with_reducible exact LeO.none _)
      | (with_reducible refine LeO.ite ?_ ?_)
      | (with_reducible refine LeO.bind ?_ (fun _ => ?_))
      | exact ih0 _ _ _ _ _
      | exact LeO.none _
      | refine LeO.ite ?_ ?_
      | refine LeO.bind ?_ (fun _ => ?_)
theorem reed_Apart.mono : ∀ a0 a1 k, LeO (reed_Apart.f k a0 a1) (reed_Apart.f (k + 1) a0 a1) := by
  intro a0 a1 k
  have ih0 := reed_Apart.mono_l k
  unfold reed_Apart.f
  repeat' first
      | (with_reducible exact ih0 _ _ _ _ _)
      | (with_reducible exact LeO.refl _)
      | (with_reducible exact LeO.none _)
      | (with_reducible refine LeO.ite ?_ ?_)
      | (with_reducible refine LeO.bind ?_ (fun _ => ?_))
      | exact ih0 _ _ _ _ _
      | exact LeO.none _
      | refine LeO.ite ?_ ?_
      | refine LeO.bind ?_ (fun _ => ?_)

/-! ### foghornref19_At: function 76 -/
def foghornref19_At.l0 : Nat → ByteArray → Int → Int → Int → Int → Option (Int)
  | 0, _, _, _, _, _ => none
  | k + 1, x0, x1, x5, x6, x7 => if x7 ≥ 0 then (if 0 ≤ x7 then (if x7 < (x0.size : Int) then ((foghornref19_Times.f k (bt x0 x7) x6).bind fun t491 => ((foghornref19_Times.f k x6 x1).bind fun t492 => (foghornref19_At.l0 k x0 x1 (Go.bits .xor .u8 x5 t491) t492 (wrap64 (x7 - 1))))) else (none)) else (none)) else (some x5)
def foghornref19_At.f (k : Nat) (a0 : ByteArray) (a1 : Int) : Option (Int) := foghornref19_At.l0 k a0 a1 0 1 (wrap64 ((a0.size : Int) - 1))
theorem foghornref19_At.mono_l : ∀ k, (∀ y0 y1 y2 y3 y4, LeO (foghornref19_At.l0 k y0 y1 y2 y3 y4) (foghornref19_At.l0 (k + 1) y0 y1 y2 y3 y4))
  | 0 => fun _ _ _ _ _ r h => by simp [foghornref19_At.l0] at h
  | k + 1 => by
    have ih0 := foghornref19_At.mono_l k
    · intro y0 y1 y2 y3 y4
      unfold foghornref19_At.l0
      repeat' first
      | (with_reducible exact ih0 _ _ _ _ _)
      | (with_reducible exact foghornref19_Times.mono _ _ _)
      | (with_reducible exact LeO.refl _)
      | (with_reducible exact LeO.none _)
      | (with_reducible refine LeO.ite ?_ ?_)
      | (with_reducible refine LeO.bind ?_ (fun _ => ?_))
      | exact ih0 _ _ _ _ _
      | exact foghornref19_Times.mono _ _ _
      | exact LeO.none _
      | refine LeO.ite ?_ ?_
      | refine LeO.bind ?_ (fun _ => ?_)
theorem foghornref19_At.mono : ∀ a0 a1 k, LeO (foghornref19_At.f k a0 a1) (foghornref19_At.f (k + 1) a0 a1) := by
  intro a0 a1 k
  have ih0 := foghornref19_At.mono_l k
  unfold foghornref19_At.f
  repeat' first
      | (with_reducible exact ih0 _ _ _ _ _)
      | (with_reducible exact foghornref19_Times.mono _ _ _)
      | (with_reducible exact LeO.refl _)
      | (with_reducible exact LeO.none _)
      | (with_reducible refine LeO.ite ?_ ?_)
      | (with_reducible refine LeO.bind ?_ (fun _ => ?_))
      | exact ih0 _ _ _ _ _
      | exact foghornref19_Times.mono _ _ _
      | exact LeO.none _
      | refine LeO.ite ?_ ?_
      | refine LeO.bind ?_ (fun _ => ?_)

/-! ### foghornref19_Syndromes: function 44 -/
def foghornref19_Syndromes.l0 : Nat → ByteArray → Int → List Int → Int → Option (List Int × Int)
  | 0, _, _, _, _ => none
  | k + 1, x0, x1, x6, x7 => if x7 < x1 then ((foghornref19_Power.f k x7).bind fun t494 => ((foghornref19_At.f k x0 t494).bind fun t495 => (if x6.length < 140737488355328 then (foghornref19_Syndromes.l0 k x0 x1 (x6 ++ [t495]) (wrap64 (x7 + 1))) else (none)))) else (some (x6, 0))
def foghornref19_Syndromes.f (k : Nat) (a0 : ByteArray) (a1 : Int) : Option (List Int × Int) := (foghornref19_Check.f (a0.size : Int) a1).bind fun t493 => (if t493 = 0 then (foghornref19_Syndromes.l0 k a0 a1 ([] : List Int) 0) else (some (([] : List Int), 1)))
theorem foghornref19_Syndromes.mono_l : ∀ k, (∀ y0 y1 y2 y3, LeO (foghornref19_Syndromes.l0 k y0 y1 y2 y3) (foghornref19_Syndromes.l0 (k + 1) y0 y1 y2 y3))
  | 0 => fun _ _ _ _ r h => by simp [foghornref19_Syndromes.l0] at h
  | k + 1 => by
    have ih0 := foghornref19_Syndromes.mono_l k
    · intro y0 y1 y2 y3
      unfold foghornref19_Syndromes.l0
      repeat' first
      | (with_reducible exact ih0 _ _ _ _)
      | (with_reducible exact foghornref19_At.mono _ _ _)
      | (with_reducible exact foghornref19_Power.mono _ _)
      | (with_reducible exact LeO.refl _)
      | (with_reducible exact LeO.none _)
      | (with_reducible refine LeO.ite ?_ ?_)
      | (with_reducible refine LeO.bind ?_ (fun _ => ?_))
      | exact ih0 _ _ _ _
      | exact foghornref19_At.mono _ _ _
      | exact foghornref19_Power.mono _ _
      | exact LeO.none _
      | refine LeO.ite ?_ ?_
      | refine LeO.bind ?_ (fun _ => ?_)
theorem foghornref19_Syndromes.mono : ∀ a0 a1 k, LeO (foghornref19_Syndromes.f k a0 a1) (foghornref19_Syndromes.f (k + 1) a0 a1) := by
  intro a0 a1 k
  have ih0 := foghornref19_Syndromes.mono_l k
  unfold foghornref19_Syndromes.f
  repeat' first
      | (with_reducible exact ih0 _ _ _ _)
      | (with_reducible exact foghornref19_At.mono _ _ _)
      | (with_reducible exact foghornref19_Power.mono _ _)
      | (with_reducible exact LeO.refl _)
      | (with_reducible exact LeO.none _)
      | (with_reducible refine LeO.ite ?_ ?_)
      | (with_reducible refine LeO.bind ?_ (fun _ => ?_))
      | exact ih0 _ _ _ _
      | exact foghornref19_At.mono _ _ _
      | exact foghornref19_Power.mono _ _
      | exact LeO.none _
      | refine LeO.ite ?_ ?_
      | refine LeO.bind ?_ (fun _ => ?_)

/-! ### foghornref19_Whole: function 45 -/
def foghornref19_Whole.l0 : Nat → List Int → Int → Option (Bool × Int)
  | 0, _, _ => none
  | k + 1, x6, x8 => if x8 < (x6.length : Int) then (if 0 ≤ x8 then (if (rd x6 x8) = 0 then (foghornref19_Whole.l0 k x6 (wrap64 (x8 + 1))) else (some (false, 0))) else (none)) else (some (true, 0))
def foghornref19_Whole.f (k : Nat) (a0 : ByteArray) (a1 : Int) : Option (Bool × Int) := (foghornref19_Syndromes.f k a0 a1).bind fun bt499 => (if bt499.2 = 0 then (foghornref19_Whole.l0 k bt499.1 0) else (some (false, bt499.2)))
theorem foghornref19_Whole.mono_l : ∀ k, (∀ y0 y1, LeO (foghornref19_Whole.l0 k y0 y1) (foghornref19_Whole.l0 (k + 1) y0 y1))
  | 0 => fun _ _ r h => by simp [foghornref19_Whole.l0] at h
  | k + 1 => by
    have ih0 := foghornref19_Whole.mono_l k
    · intro y0 y1
      unfold foghornref19_Whole.l0
      repeat' first
      | (with_reducible exact ih0 _ _)
      | (with_reducible exact foghornref19_Syndromes.mono _ _ _)
      | (with_reducible exact LeO.refl _)
      | (with_reducible exact LeO.none _)
      | (with_reducible refine LeO.ite ?_ ?_)
      | (with_reducible refine LeO.bind ?_ (fun _ => ?_))
      | exact ih0 _ _
      | exact foghornref19_Syndromes.mono _ _ _
      | exact LeO.none _
      | refine LeO.ite ?_ ?_
      | refine LeO.bind ?_ (fun _ => ?_)
theorem foghornref19_Whole.mono : ∀ a0 a1 k, LeO (foghornref19_Whole.f k a0 a1) (foghornref19_Whole.f (k + 1) a0 a1) := by
  intro a0 a1 k
  have ih0 := foghornref19_Whole.mono_l k
  unfold foghornref19_Whole.f
  repeat' first
      | (with_reducible exact ih0 _ _)
      | (with_reducible exact foghornref19_Syndromes.mono _ _ _)
      | (with_reducible exact LeO.refl _)
      | (with_reducible exact LeO.none _)
      | (with_reducible refine LeO.ite ?_ ?_)
      | (with_reducible refine LeO.bind ?_ (fun _ => ?_))
      | exact ih0 _ _
      | exact foghornref19_Syndromes.mono _ _ _
      | exact LeO.none _
      | refine LeO.ite ?_ ?_
      | refine LeO.bind ?_ (fun _ => ?_)

/-! ### reed_Data: function 46 -/
def reed_Data.f (k : Nat) (a0 : ByteArray) (a1 : Int) : Option (ByteArray × Int) := (reed_Whole.f k a0 a1).bind fun bt504 => (if bt504.2 = 0 then (if bt504.1 = true then (if 0 ≤ (wrap64 ((a0.size : Int) - a1)) then (if (wrap64 ((a0.size : Int) - a1)) ≤ (a0.size : Int) then (some (a0.extract 0 ((wrap64 ((a0.size : Int) - a1)) : Int).toNat, 0)) else (none)) else (none)) else (some ((⟨#[]⟩ : ByteArray), 6))) else (some ((⟨#[]⟩ : ByteArray), bt504.2)))
theorem reed_Data.mono : ∀ a0 a1 k, LeO (reed_Data.f k a0 a1) (reed_Data.f (k + 1) a0 a1) := by
  intro a0 a1 k
  unfold reed_Data.f
  repeat' first
      | (with_reducible exact reed_Whole.mono _ _ _)
      | (with_reducible exact LeO.refl _)
      | (with_reducible exact LeO.none _)
      | (with_reducible refine LeO.ite ?_ ?_)
      | (with_reducible refine LeO.bind ?_ (fun _ => ?_))
      | exact reed_Whole.mono _ _ _
      | exact LeO.none _
      | refine LeO.ite ?_ ?_
      | refine LeO.bind ?_ (fun _ => ?_)

/-! ### foghornref19_Data: function 47 -/
def foghornref19_Data.f (k : Nat) (a0 : ByteArray) (a1 : Int) : Option (ByteArray × Int) := (foghornref19_Whole.f k a0 a1).bind fun bt506 => (if bt506.2 = 0 then (if bt506.1 = true then (if 0 ≤ (wrap64 ((a0.size : Int) - a1)) then (if (wrap64 ((a0.size : Int) - a1)) ≤ (a0.size : Int) then (some (a0.extract 0 ((wrap64 ((a0.size : Int) - a1)) : Int).toNat, 0)) else (none)) else (none)) else (some ((⟨#[]⟩ : ByteArray), 6))) else (some ((⟨#[]⟩ : ByteArray), bt506.2)))
theorem foghornref19_Data.mono : ∀ a0 a1 k, LeO (foghornref19_Data.f k a0 a1) (foghornref19_Data.f (k + 1) a0 a1) := by
  intro a0 a1 k
  unfold foghornref19_Data.f
  repeat' first
      | (with_reducible exact foghornref19_Whole.mono _ _ _)
      | (with_reducible exact LeO.refl _)
      | (with_reducible exact LeO.none _)
      | (with_reducible refine LeO.ite ?_ ?_)
      | (with_reducible refine LeO.bind ?_ (fun _ => ?_))
      | exact foghornref19_Whole.mono _ _ _
      | exact LeO.none _
      | refine LeO.ite ?_ ?_
      | refine LeO.bind ?_ (fun _ => ?_)

/-! ### foghornref19_Apart: function 48 -/
def foghornref19_Apart.l0 : Nat → ByteArray → ByteArray → Int → Int → Option (Int × Int)
  | 0, _, _, _, _ => none
  | k + 1, x0, x1, x6, x7 => if x7 < (x0.size : Int) then (if 0 ≤ x7 then (if x7 < (x1.size : Int) then (if (bt x0 x7) = (bt x1 x7) then (foghornref19_Apart.l0 k x0 x1 x6 (wrap64 (x7 + 1))) else (foghornref19_Apart.l0 k x0 x1 (wrap64 (x6 + 1)) (wrap64 (x7 + 1)))) else (none)) else (none)) else (some (x6, 0))
def foghornref19_Apart.f (k : Nat) (a0 : ByteArray) (a1 : ByteArray) : Option (Int × Int) := if (a0.size : Int) = (a1.size : Int) then (foghornref19_Apart.l0 k a0 a1 0 0) else (some (0, 1))
theorem foghornref19_Apart.mono_l : ∀ k, (∀ y0 y1 y2 y3, LeO (foghornref19_Apart.l0 k y0 y1 y2 y3) (foghornref19_Apart.l0 (k + 1) y0 y1 y2 y3))
  | 0 => fun _ _ _ _ r h => by simp [foghornref19_Apart.l0] at h
  | k + 1 => by
    have ih0 := foghornref19_Apart.mono_l k
    · intro y0 y1 y2 y3
      unfold foghornref19_Apart.l0
      repeat' first
      | (with_reducible exact ih0 _ _ _ _)
      | (with_reducible exact LeO.refl _)
      | (with_reducible exact LeO.none _)
      | (with_reducible refine LeO.ite ?_ ?_)
      | (with_reducible refine LeO.bind ?_ (fun _ => ?_))
      | exact ih0 _ _ _ _
      | exact LeO.none _
      | refine LeO.ite ?_ ?_
      | refine LeO.bind ?_ (fun _ => ?_)
theorem foghornref19_Apart.mono : ∀ a0 a1 k, LeO (foghornref19_Apart.f k a0 a1) (foghornref19_Apart.f (k + 1) a0 a1) := by
  intro a0 a1 k
  have ih0 := foghornref19_Apart.mono_l k
  unfold foghornref19_Apart.f
  repeat' first
      | (with_reducible exact ih0 _ _ _ _)
      | (with_reducible exact LeO.refl _)
      | (with_reducible exact LeO.none _)
      | (with_reducible refine LeO.ite ?_ ?_)
      | (with_reducible refine LeO.bind ?_ (fun _ => ?_))
      | exact ih0 _ _ _ _
      | exact LeO.none _
      | refine LeO.ite ?_ ?_
      | refine LeO.bind ?_ (fun _ => ?_)

/-! ### field_Sum: function 49 -/
def field_Sum.f (k : Nat) (l0 : List Int) (l1 : List Int) : Option (List Int × Int) := (field_long.f (([l0, l1] : List (List Int)))).bind fun t511 => (if t511 = true then (some (([] : List Int), 1)) else ((field_sum.f k l0 l1).bind fun t512 => (some (t512, 0))))
theorem field_Sum.mono : ∀ a0 a1 k, LeO (field_Sum.f k a0 a1) (field_Sum.f (k + 1) a0 a1) := by
  intro a0 a1 k
  unfold field_Sum.f
  repeat' first
      | (with_reducible exact field_sum.mono _ _ _)
      | (with_reducible exact LeO.refl _)
      | (with_reducible exact LeO.none _)
      | (with_reducible refine LeO.ite ?_ ?_)
      | (with_reducible refine LeO.bind ?_ (fun _ => ?_))
      | exact field_sum.mono _ _ _
      | exact LeO.none _
      | refine LeO.ite ?_ ?_
      | refine LeO.bind ?_ (fun _ => ?_)

end Go.Proofs.Ytmdeldiocaofkaa.Q
