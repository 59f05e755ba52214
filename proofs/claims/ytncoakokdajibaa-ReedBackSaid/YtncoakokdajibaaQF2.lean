-- Printed by myprint.py (ours) over the kit's printer, out of the translation.
import Derived.Test.YtncoakokdajibaaQ0
import Derived.Test.YtncoakokdajibaaQF1
namespace Go.Proofs.Ytncoakokdajibaa.Q
open Go.RowKit Go.Proofs.YtncoakokdajibaaW.PrintWords Go.Proofs.YtncoakokdajibaaW.PrintLast Go.Proofs.YtncoakokdajibaaW.PrintMore
attribute [local go_sem] ArrW.ptrOf_slice max2_int min2_int max_two min_two max_three min_three max_four min_four   -- for this text's walks alone
set_option linter.unusedVariables false
set_option linter.unusedSimpArgs false

-- NOT PRINTED: function 114 (slices_IndexFunc_uint8_uint8)

-- NOT PRINTED: function 102 (slices_ContainsFunc_uint8_uint8)

/-! ### field_long: function 77 -/
def field_long.f (l0 : List (List Int)) : Option (Bool) := some (l0.any fun l => decide ((l.length : Int) > 512))

/-! ### field_sum: function 78 -/
mutual
def field_sum.l0 : Nat → List Int → List Int → Int → Int → Option (List Int)
  | 0, _, _, _, _ => none
  | k + 1, x5, x17, x18, x19 => if x19 < x18 then (if 0 ≤ x19 then (if x19 < (x17.length : Int) then (if x19 < (x5.length : Int) then (field_sum.l0 k (x5.set (x19 : Int).toNat (Go.bits .xor .u8 (rd x5 x19) (rd x17 x19))) x17 x18 (wrap64 (x19 + 1))) else (none)) else (none)) else (none)) else ((field_poly.f k x5).bind fun t444 => (some t444))
def field_sum.l102 : Nat → List Int → List Int → Int → Int → Option (List Int)
  | 0, _, _, _, _ => none
  | k + 1, x5, x17, x18, x19 => if x19 < x18 then (if 0 ≤ x19 then (if x19 < (x17.length : Int) then (if x19 < (x5.length : Int) then (field_sum.l102 k (x5.set (x19 : Int).toNat (Go.bits .xor .u8 (rd x5 x19) (rd x17 x19))) x17 x18 (wrap64 (x19 + 1))) else (none)) else (none)) else (none)) else ((field_poly.f k x5).bind fun t453 => (some t453))
end
def field_sum.f (k : Nat) (l0 : List Int) (l1 : List Int) : Option (List Int) := if (l0.length : Int) < (l1.length : Int) then ((slices_Clone_uint8_uint8.f l1).bind fun t438 => (field_sum.l0 k t438 l0 (l0.length : Int) 0)) else ((slices_Clone_uint8_uint8.f l0).bind fun t447 => (field_sum.l102 k t447 l1 (l1.length : Int) 0))
theorem field_sum.mono_l : ∀ k, (∀ y0 y1 y2 y3, LeO (field_sum.l0 k y0 y1 y2 y3) (field_sum.l0 (k + 1) y0 y1 y2 y3)) ∧ (∀ y0 y1 y2 y3, LeO (field_sum.l102 k y0 y1 y2 y3) (field_sum.l102 (k + 1) y0 y1 y2 y3))
  | 0 => ⟨fun _ _ _ _ r h => by simp [field_sum.l0] at h, fun _ _ _ _ r h => by simp [field_sum.l102] at h⟩
  | k + 1 => by
    obtain ⟨ih0, ih1⟩ := field_sum.mono_l k
    refine ⟨?_, ?_⟩
    · intro y0 y1 y2 y3
      unfold field_sum.l0
      repeat' first
      | (with_reducible exact ih0 _ _ _ _)
      | (with_reducible exact ih1 _ _ _ _)
      | (with_reducible exact field_poly.mono _ _)
      | (with_reducible exact LeO.refl _)
      | (with_reducible exact LeO.none _)
      | (with_reducible refine LeO.ite ?_ ?_)
      | (with_reducible refine LeO.bind ?_ (fun _ => ?_))
      | exact ih0 _ _ _ _
      | exact ih1 _ _ _ _
      | exact field_poly.mono _ _
      | exact LeO.none _
      | refine LeO.ite ?_ ?_
      | refine LeO.bind ?_ (fun _ => ?_)
    · intro y0 y1 y2 y3
      unfold field_sum.l102
      repeat' first
      | (with_reducible exact ih0 _ _ _ _)
      | (with_reducible exact ih1 _ _ _ _)
      | (with_reducible exact field_poly.mono _ _)
      | (with_reducible exact LeO.refl _)
      | (with_reducible exact LeO.none _)
      | (with_reducible refine LeO.ite ?_ ?_)
      | (with_reducible refine LeO.bind ?_ (fun _ => ?_))
      | exact ih0 _ _ _ _
      | exact ih1 _ _ _ _
      | exact field_poly.mono _ _
      | exact LeO.none _
      | refine LeO.ite ?_ ?_
      | refine LeO.bind ?_ (fun _ => ?_)
theorem field_sum.mono : ∀ a0 a1 k, LeO (field_sum.f k a0 a1) (field_sum.f (k + 1) a0 a1) := by
  intro a0 a1 k
  obtain ⟨ih0, ih1⟩ := field_sum.mono_l k
  unfold field_sum.f
  repeat' first
      | (with_reducible exact ih0 _ _ _ _)
      | (with_reducible exact ih1 _ _ _ _)
      | (with_reducible exact field_poly.mono _ _)
      | (with_reducible exact LeO.refl _)
      | (with_reducible exact LeO.none _)
      | (with_reducible refine LeO.ite ?_ ?_)
      | (with_reducible refine LeO.bind ?_ (fun _ => ?_))
      | exact ih0 _ _ _ _
      | exact ih1 _ _ _ _
      | exact field_poly.mono _ _
      | exact LeO.none _
      | refine LeO.ite ?_ ?_
      | refine LeO.bind ?_ (fun _ => ?_)

/-! ### field_Sum: function 38 -/
def field_Sum.f (k : Nat) (l0 : List Int) (l1 : List Int) : Option (List Int × Int) := (field_long.f (([l0, l1] : List (List Int)))).bind fun t459 => (if t459 = true then (some (([] : List Int), 1)) else ((field_sum.f k l0 l1).bind fun t460 => (some (t460, 0))))
theorem field_Sum.mono : ∀ a0 a1 k, LeO (field_Sum.f k a0 a1) (field_Sum.f (k + 1) a0 a1) := by
  intro a0 a1 k
  unfold field_Sum.f
  repeat' first
      | (with_reducible exact field_sum.mono _ _ _)
      | (with_reducible exact LeO.refl _)
      | (with_reducible exact LeO.none _)
      | (with_reducible refine LeO.ite ?_ ?_)
      | (with_reducible refine LeO.bind ?_ (fun _ => ?_))
      | exact field_sum.mono _ _ _
      | exact LeO.none _
      | refine LeO.ite ?_ ?_
      | refine LeO.bind ?_ (fun _ => ?_)

/-! ### field_Product: function 39 -/
def field_Product.f (k : Nat) (l0 : List Int) (l1 : List Int) : Option (List Int × Int) := (field_long.f (([l0, l1] : List (List Int)))).bind fun t466 => (if t466 = true then (some (([] : List Int), 1)) else ((field_poly.f k l0).bind fun t467 => ((field_poly.f k l1).bind fun t470 => (if (mn (t467.length : Int) (t470.length : Int)) > 0 then (if (wrap64 ((t467.length : Int) + (t470.length : Int))) > 513 then (some (([] : List Int), 1)) else ((field_product.f k t467 t470).bind fun t473 => (some (t473, 0)))) else ((field_product.f k t467 t470).bind fun t476 => (some (t476, 0)))))))
theorem field_Product.mono : ∀ a0 a1 k, LeO (field_Product.f k a0 a1) (field_Product.f (k + 1) a0 a1) := by
  intro a0 a1 k
  unfold field_Product.f
  repeat' first
      | (with_reducible exact field_poly.mono _ _)
      | (with_reducible exact field_product.mono _ _ _)
      | (with_reducible exact LeO.refl _)
      | (with_reducible exact LeO.none _)
      | (with_reducible refine LeO.ite ?_ ?_)
      | (with_reducible refine LeO.bind ?_ (fun _ => ?_))
      | exact field_poly.mono _ _
      | exact field_product.mono _ _ _
      | exact LeO.none _
      | refine LeO.ite ?_ ?_
      | refine LeO.bind ?_ (fun _ => ?_)

/-! ### field_divide: function 81 -/
mutual
def field_divide.l0 : Nat → List Int → List Int → List Int → Int → Int → Option (List Int × List Int)
  | 0, _, _, _, _, _ => none
  | k + 1, x1, x4, x5, x6, x7 => if x7 ≥ 0 then (if 0 ≤ (wrap64 ((wrap64 (x7 + (x1.length : Int))) - 1)) then (if (wrap64 ((wrap64 (x7 + (x1.length : Int))) - 1)) < (x5.length : Int) then ((field_Times.f k (rd x5 (wrap64 ((wrap64 (x7 + (x1.length : Int))) - 1))) x6).bind fun t491 => (if 0 ≤ x7 then (if x7 < (x4.length : Int) then (field_divide.l1 k x1 (x4.set (x7 : Int).toNat t491) x5 x6 x7 t491 x1 (x1.length : Int) 0) else (none)) else (none))) else (none)) else (none)) else ((field_poly.f k x5).bind fun t487 => (some (x4, t487)))
def field_divide.l1 : Nat → List Int → List Int → List Int → Int → Int → Int → List Int → Int → Int → Option (List Int × List Int)
  | 0, _, _, _, _, _, _, _, _, _ => none
  | k + 1, x1, x4, x5, x6, x7, x8, x49, x50, x51 => if x51 < x50 then (if 0 ≤ x51 then (if x51 < (x49.length : Int) then (if 0 ≤ (wrap64 (x7 + x51)) then (if (wrap64 (x7 + x51)) < (x5.length : Int) then ((field_Times.f k x8 (rd x49 x51)).bind fun t495 => (field_divide.l1 k x1 x4 (x5.set ((wrap64 (x7 + x51)) : Int).toNat (Go.bits .xor .u8 (rd x5 (wrap64 (x7 + x51))) t495)) x6 x7 x8 x49 x50 (wrap64 (x51 + 1)))) else (none)) else (none)) else (none)) else (none)) else (field_divide.l0 k x1 x4 x5 x6 (wrap64 (x7 - 1)))
end
def field_divide.f (k : Nat) (l0 : List Int) (l1 : List Int) : Option (List Int × List Int) := (field_poly.f k l0).bind fun t479 => (if 0 ≤ (wrap64 ((l1.length : Int) - 1)) then (if (wrap64 ((l1.length : Int) - 1)) < (l1.length : Int) then ((field_raised.f k (rd l1 (wrap64 ((l1.length : Int) - 1))) 254).bind fun t483 => (if 0 ≤ (mx 0 (wrap64 ((wrap64 ((t479.length : Int) - (l1.length : Int))) + 1))) then (if (mx 0 (wrap64 ((wrap64 ((t479.length : Int) - (l1.length : Int))) + 1)) : Int).toNat ≤ 281474976710656 then ((some (List.replicate (mx 0 (wrap64 ((wrap64 ((t479.length : Int) - (l1.length : Int))) + 1)) : Int).toNat 0 : List Int)).bind fun y484 => (field_divide.l0 k l1 y484 t479 t483 (wrap64 ((y484.length : Int) - 1)))) else (none)) else (none))) else (none)) else (none))
theorem field_divide.mono_l : ∀ k, (∀ y0 y1 y2 y3 y4, LeO (field_divide.l0 k y0 y1 y2 y3 y4) (field_divide.l0 (k + 1) y0 y1 y2 y3 y4)) ∧ (∀ y0 y1 y2 y3 y4 y5 y6 y7 y8, LeO (field_divide.l1 k y0 y1 y2 y3 y4 y5 y6 y7 y8) (field_divide.l1 (k + 1) y0 y1 y2 y3 y4 y5 y6 y7 y8))
  | 0 => ⟨fun _ _ _ _ _ r h => by simp [field_divide.l0] at h, fun _ _ _ _ _ _ _ _ _ r h => by simp [field_divide.l1] at h⟩
  | k + 1 => by
    obtain ⟨ih0, ih1⟩ := field_divide.mono_l k
    refine ⟨?_, ?_⟩
    · intro y0 y1 y2 y3 y4
      unfold field_divide.l0
      repeat' first
      | (with_reducible exact ih0 _ _ _ _ _)
      | (with_reducible exact ih1 _ _ _ _ _ _ _ _ _)
      | (with_reducible exact field_Times.mono _ _ _)
      | (with_reducible exact field_poly.mono _ _)
      | (with_reducible exact field_raised.mono _ _ _)
      | (with_reducible exact LeO.refl _)
      | (with_reducible exact LeO.none _)
      | (with_reducible refine LeO.ite ?_ ?_)
      | (with_reducible refine LeO.bind ?_ (fun _ => ?_))
      | exact ih0 _ _ _ _ _
      | exact ih1 _ _ _ _ _ _ _ _ _
      | exact field_Times.mono _ _ _
      | exact field_poly.mono _ _
      | exact field_raised.mono _ _ _
      | exact LeO.none _
      | refine LeO.ite ?_ ?_
      | refine LeO.bind ?_ (fun _ => ?_)
    · intro y0 y1 y2 y3 y4 y5 y6 y7 y8
      unfold field_divide.l1
      repeat' first
      | (with_reducible exact ih0 _ _ _ _ _)
      | (with_reducible exact ih1 _ _ _ _ _ _ _ _ _)
      | (with_reducible exact field_Times.mono _ _ _)
      | (with_reducible exact field_poly.mono _ _)
      | (with_reducible exact field_raised.mono _ _ _)
      | (with_reducible exact LeO.refl _)
      | (with_reducible exact LeO.none _)
      | (with_reducible refine LeO.ite ?_ ?_)
      | (with_reducible refine LeO.bind ?_ (fun _ => ?_))
      | exact ih0 _ _ _ _ _
      | exact ih1 _ _ _ _ _ _ _ _ _
      | exact field_Times.mono _ _ _
      | exact field_poly.mono _ _
      | exact field_raised.mono _ _ _
      | exact LeO.none _
      | refine LeO.ite ?_ ?_
      | refine LeO.bind ?_ (fun _ => ?_)
theorem field_divide.mono : ∀ a0 a1 k, LeO (field_divide.f k a0 a1) (field_divide.f (k + 1) a0 a1) := by
  intro a0 a1 k
  obtain ⟨ih0, ih1⟩ := field_divide.mono_l k
  unfold field_divide.f
  repeat' first
      | (with_reducible exact ih0 _ _ _ _ _)
      | (with_reducible exact ih1 _ _ _ _ _ _ _ _ _)
      | (with_reducible exact field_Times.mono _ _ _)
      | (with_reducible exact field_poly.mono _ _)
      | (with_reducible exact field_raised.mono _ _ _)
      | (with_reducible exact LeO.refl _)
      | (with_reducible exact LeO.none _)
      | (with_reducible refine LeO.ite ?_ ?_)
      | (with_reducible refine LeO.bind ?_ (fun _ => ?_))
      | exact ih0 _ _ _ _ _
      | exact ih1 _ _ _ _ _ _ _ _ _
      | exact field_Times.mono _ _ _
      | exact field_poly.mono _ _
      | exact field_raised.mono _ _ _
      | exact LeO.none _
      | refine LeO.ite ?_ ?_
      | refine LeO.bind ?_ (fun _ => ?_)
def field_divide.T12 : Bool × List (List Nat × List Nat) := (true, [([], []), ([], []), ([], []), ([1, 2], [1, 2]), ([0, 3], [0, 3]), ([4], [4]), ([], []), ([], []), ([6, 7], [6, 7]), ([5, 8], [5, 8]), ([0, 3, 0, 1, 2, 3, 4, 5, 6, 7, 8, 9], [0, 3]), ([10, 9, 8, 0, 1, 2, 3, 4, 5, 6, 7, 8, 9], [9, 10])])
def field_divide.B12 : List Nat := [0, 0, 0, 6, 15, 31, 0, 0, 192, 511, 1023, 2047]
theorem field_divide.tab12 : rtab .any (opsOf Try.f81 12) = field_divide.T12 := by kernel_rfl
theorem field_divide.bits12 : waitsOk field_divide.T12.2 field_divide.B12 = true := by kernel_rfl

/-! ### field_Divide: function 40 -/
def field_Divide.f (k : Nat) (l0 : List Int) (l1 : List Int) : Option (List Int × List Int × Int) := (field_long.f (([l0, l1] : List (List Int)))).bind fun t500 => (if t500 = true then (some (([] : List Int), ([] : List Int), 1)) else ((field_poly.f k l1).bind fun t501 => (if (t501.length : Int) = 0 then (some (([] : List Int), ([] : List Int), 6)) else ((field_divide.f k l0 t501).bind fun bt504 => (some (bt504.1, bt504.2, 0))))))
theorem field_Divide.mono : ∀ a0 a1 k, LeO (field_Divide.f k a0 a1) (field_Divide.f (k + 1) a0 a1) := by
  intro a0 a1 k
  unfold field_Divide.f
  repeat' first
      | (with_reducible exact field_divide.mono _ _ _)
      | (with_reducible exact field_poly.mono _ _)
      | (with_reducible exact LeO.refl _)
      | (with_reducible exact LeO.none _)
      | (with_reducible refine LeO.ite ?_ ?_)
      | (with_reducible refine LeO.bind ?_ (fun _ => ?_))
      | exact field_divide.mono _ _ _
      | exact field_poly.mono _ _
      | exact LeO.none _
      | refine LeO.ite ?_ ?_
      | refine LeO.bind ?_ (fun _ => ?_)

/-! ### field_at: function 82 -/
def field_at.step (a1 : Int) (s n : Int) : Option Int := (field_Times.f 9 s a1).map fun t => Go.bits .xor .u8 t n
def field_at.f (l0 : List Int) (a1 : Int) : Option (Int) := if 0 ≤ a1 ∧ a1 ≤ 255 then some (l0.foldr (fun n s => (field_at.step a1 s n).getD 0) 0) else none
theorem field_at.times_some (a b : Int) (h0 : 0 ≤ b) (h1 : b ≤ 255) : ∃ r, field_Times.f 9 a b = some r := by
  have key : ∀ (k : Nat) (a b p : Int), 0 ≤ b → b < 2 ^ k → ∃ r, field_Times.l0 (k + 1) a b p = some r := by
    intro k
    induction k with
    | zero => intro a b p h0 h1; refine ⟨p, ?_⟩; rw [field_Times.l0, if_neg (by omega)]
    | succ k ih =>
      intro a b p h0 h1
      by_cases hb : b > 0
      · rw [field_Times.l0, if_pos hb]
        exact ih _ _ _ (by omega) (by rw [Int.pow_succ] at h1; omega)
      · refine ⟨p, ?_⟩; rw [field_Times.l0, if_neg hb]
  exact key 8 a b 0 h0 (by omega)

/-! ### field_Roots: function 41 -/
def field_Roots.l0 : Nat → List Int → List Int → Int → Option (List Int × Int)
  | 0, _, _, _ => none
  | k + 1, x0, x4, x13 => if x13 < 256 then ((field_at.f x0 ((x13) % 256)).bind fun t517 => (if t517 = 0 then (if x4.length < 140737488355328 then (field_Roots.l0 k x0 (x4 ++ [(x13) % 256]) (wrap64 (x13 + 1))) else (none)) else (field_Roots.l0 k x0 x4 (wrap64 (x13 + 1))))) else (some (x4, 0))
def field_Roots.f (k : Nat) (l0 : List Int) : Option (List Int × Int) := (field_long.f (([l0] : List (List Int)))).bind fun t513 => (if t513 = true then (some (([] : List Int), 1)) else ((field_poly.f k l0).bind fun t514 => (if (t514.length : Int) = 0 then (some (([] : List Int), 6)) else (field_Roots.l0 k l0 ([] : List Int) 0))))
theorem field_Roots.mono_l : ∀ k, (∀ y0 y1 y2, LeO (field_Roots.l0 k y0 y1 y2) (field_Roots.l0 (k + 1) y0 y1 y2))
  | 0 => fun _ _ _ r h => by simp [field_Roots.l0] at h
  | k + 1 => by
    have ih0 := field_Roots.mono_l k
    · intro y0 y1 y2
      unfold field_Roots.l0
      repeat' first
      | (with_reducible exact ih0 _ _ _)
      | (with_reducible exact field_poly.mono _ _)
      | (with_reducible exact LeO.refl _)
      | (with_reducible exact LeO.none _)
      | (with_reducible refine LeO.ite ?_ ?_)
      | (with_reducible refine LeO.bind ?_ (fun _ => ?_))
      | exact ih0 _ _ _
      | exact field_poly.mono _ _
      | exact LeO.none _
      | refine LeO.ite ?_ ?_
      | refine LeO.bind ?_ (fun _ => ?_)
theorem field_Roots.mono : ∀ a0 k, LeO (field_Roots.f k a0) (field_Roots.f (k + 1) a0) := by
  intro a0 k
  have ih0 := field_Roots.mono_l k
  unfold field_Roots.f
  repeat' first
      | (with_reducible exact ih0 _ _ _)
      | (with_reducible exact field_poly.mono _ _)
      | (with_reducible exact LeO.refl _)
      | (with_reducible exact LeO.none _)
      | (with_reducible refine LeO.ite ?_ ?_)
      | (with_reducible refine LeO.bind ?_ (fun _ => ?_))
      | exact ih0 _ _ _
      | exact field_poly.mono _ _
      | exact LeO.none _
      | refine LeO.ite ?_ ?_
      | refine LeO.bind ?_ (fun _ => ?_)

/-! ### field_Through: function 43 -/
def field_Through.l0 : Nat → List Int → List Int → List Int → List (S112) → Int → Int → Option (List Int × Int)
  | 0, _, _, _, _, _, _ => none
  | k + 1, x4, x5, x6, x14, x15, x16 => if x16 < x15 then (if 0 ≤ x16 then (if x16 < (x14.length : Int) then (if 0 ≤ ((rd_T112 x14 x16).f0) then (if ((rd_T112 x14 x16).f0) < 256 then (if ((rd_T112 x14 x16).f0) < (x4.length : Int) then ((some (x4.set (((rd_T112 x14 x16).f0) : Int).toNat (wrap64 ((rd x4 ((rd_T112 x14 x16).f0)) + 1)) : List Int)).bind fun y530 => (if (rd y530 ((rd_T112 x14 x16).f0)) > 1 then (some (([] : List Int), 1)) else ((field_at.f x5 ((rd_T112 x14 x16).f0)).bind fun t532 => ((field_at.f x6 ((rd_T112 x14 x16).f0)).bind fun t533 => ((field_raised.f k t533 254).bind fun t534 => ((field_Times.f k (Go.bits .xor .u8 t532 ((rd_T112 x14 x16).f1)) t534).bind fun t535 => ((field_product.f k x6 (([t535] : List Int))).bind fun t539 => ((field_sum.f k x5 t539).bind fun t542 => ((field_product.f k x6 (([(rd_T112 x14 x16).f0, 1] : List Int))).bind fun t548 => (field_Through.l0 k y530 t542 t548 x14 x15 (wrap64 (x16 + 1)))))))))))) else (none)) else (none)) else (none)) else (none)) else (none)) else (some (x5, 0))
def field_Through.f (k : Nat) (l0 : List (S112)) : Option (List Int × Int) := if (l0.length : Int) > 256 then (some (([] : List Int), 1)) else (field_Through.l0 k (List.replicate 256 0) ([] : List Int) (([1] : List Int)) l0 (l0.length : Int) 0)
theorem field_Through.mono_l : ∀ k, (∀ y0 y1 y2 y3 y4 y5, LeO (field_Through.l0 k y0 y1 y2 y3 y4 y5) (field_Through.l0 (k + 1) y0 y1 y2 y3 y4 y5))
  | 0 => fun _ _ _ _ _ _ r h => by simp [field_Through.l0] at h
  | k + 1 => by
    have ih0 := field_Through.mono_l k
    · intro y0 y1 y2 y3 y4 y5
      unfold field_Through.l0
      repeat' first
      | (with_reducible exact ih0 _ _ _ _ _ _)
      | (with_reducible exact field_Times.mono _ _ _)
      | (with_reducible exact field_product.mono _ _ _)
      | (with_reducible exact field_raised.mono _ _ _)
      | (with_reducible exact field_sum.mono _ _ _)
      | (with_reducible exact LeO.refl _)
      | (with_reducible exact LeO.none _)
      | (with_reducible refine LeO.ite ?_ ?_)
      | (with_reducible refine LeO.bind ?_ (fun _ => ?_))
      | exact ih0 _ _ _ _ _ _
      | exact field_Times.mono _ _ _
      | exact field_product.mono _ _ _
      | exact field_raised.mono _ _ _
      | exact field_sum.mono _ _ _
      | exact LeO.none _
      | refine LeO.ite ?_ ?_
      | refine LeO.bind ?_ (fun _ => ?_)
theorem field_Through.mono : ∀ a0 k, LeO (field_Through.f k a0) (field_Through.f (k + 1) a0) := by
  intro a0 k
  have ih0 := field_Through.mono_l k
  unfold field_Through.f
  repeat' first
      | (with_reducible exact ih0 _ _ _ _ _ _)
      | (with_reducible exact field_Times.mono _ _ _)
      | (with_reducible exact field_product.mono _ _ _)
      | (with_reducible exact field_raised.mono _ _ _)
      | (with_reducible exact field_sum.mono _ _ _)
      | (with_reducible exact LeO.refl _)
      | (with_reducible exact LeO.none _)
      | (with_reducible refine LeO.ite ?_ ?_)
      | (with_reducible refine LeO.bind ?_ (fun _ => ?_))
      | exact ih0 _ _ _ _ _ _
      | exact field_Times.mono _ _ _
      | exact field_product.mono _ _ _
      | exact field_raised.mono _ _ _
      | exact field_sum.mono _ _ _
      | exact LeO.none _
      | refine LeO.ite ?_ ?_
      | refine LeO.bind ?_ (fun _ => ?_)
def field_Through.T12 : Bool × List (List Nat × List Nat) := (true, [([], []), ([], []), ([1], [1]), ([0, 2], [0, 2]), ([], []), ([4], [4]), ([3, 5], [3, 5]), ([], []), ([], []), ([8], [8]), ([7, 9, 3], [7, 9]), ([10, 10], [10]), ([6, 11, 11], [6, 11]), ([12, 12, 0, 1, 2, 3, 4, 5, 6, 7, 8, 9, 10, 11, 12], [12])])
def field_Through.B12 : List Nat := [0, 0, 2, 7, 0, 16, 63, 0, 0, 256, 911, 1935, 4095, 8191]
theorem field_Through.tab12 : rtab .any (opsOf Try.f43 12) = field_Through.T12 := by kernel_rfl
theorem field_Through.bits12 : waitsOk field_Through.T12.2 field_Through.B12 = true := by kernel_rfl

/-! ### field_Gcd: function 44 -/
def field_Gcd.l0 : Nat → List Int → List Int → Option (List Int × Int)
  | 0, _, _ => none
  | k + 1, x0, x1 => if (x1.length : Int) > 0 then ((field_divide.f k x0 x1).bind fun bt561 => (field_Gcd.l0 k x1 bt561.2)) else (if (x0.length : Int) = 0 then (some (([] : List Int), 0)) else (if 0 ≤ (wrap64 ((x0.length : Int) - 1)) then (if (wrap64 ((x0.length : Int) - 1)) < (x0.length : Int) then ((field_raised.f k (rd x0 (wrap64 ((x0.length : Int) - 1))) 254).bind fun t568 => ((field_product.f k x0 (([t568] : List Int))).bind fun t572 => (some (t572, 0)))) else (none)) else (none)))
def field_Gcd.f (k : Nat) (l0 : List Int) (l1 : List Int) : Option (List Int × Int) := (field_long.f (([l0, l1] : List (List Int)))).bind fun t554 => (if t554 = true then (some (([] : List Int), 1)) else ((field_poly.f k l0).bind fun t555 => ((field_poly.f k l1).bind fun t558 => (field_Gcd.l0 k t555 t558))))
theorem field_Gcd.mono_l : ∀ k, (∀ y0 y1, LeO (field_Gcd.l0 k y0 y1) (field_Gcd.l0 (k + 1) y0 y1))
  | 0 => fun _ _ r h => by simp [field_Gcd.l0] at h
  | k + 1 => by
    have ih0 := field_Gcd.mono_l k
    · intro y0 y1
      unfold field_Gcd.l0
      repeat' first
      | (with_reducible exact ih0 _ _)
      | (with_reducible exact field_divide.mono _ _ _)
      | (with_reducible exact field_poly.mono _ _)
      | (with_reducible exact field_product.mono _ _ _)
      | (with_reducible exact field_raised.mono _ _ _)
      | (with_reducible exact LeO.refl _)
      | (with_reducible exact LeO.none _)
      | (with_reducible refine LeO.ite ?_ ?_)
      | (with_reducible refine LeO.bind ?_ (fun _ => ?_))
      | exact ih0 _ _
      | exact field_divide.mono _ _ _
      | exact field_poly.mono _ _
      | exact field_product.mono _ _ _
      | exact field_raised.mono _ _ _
      | exact LeO.none _
      | refine LeO.ite ?_ ?_
      | refine LeO.bind ?_ (fun _ => ?_)
theorem field_Gcd.mono : ∀ a0 a1 k, LeO (field_Gcd.f k a0 a1) (field_Gcd.f (k + 1) a0 a1) := by
  intro a0 a1 k
  have ih0 := field_Gcd.mono_l k
  unfold field_Gcd.f
  repeat' first
      | (with_reducible exact ih0 _ _)
      | (with_reducible exact field_divide.mono _ _ _)
      | (with_reducible exact field_poly.mono _ _)
      | (with_reducible exact field_product.mono _ _ _)
      | (with_reducible exact field_raised.mono _ _ _)
      | (with_reducible exact LeO.refl _)
      | (with_reducible exact LeO.none _)
      | (with_reducible refine LeO.ite ?_ ?_)
      | (with_reducible refine LeO.bind ?_ (fun _ => ?_))
      | exact ih0 _ _
      | exact field_divide.mono _ _ _
      | exact field_poly.mono _ _
      | exact field_product.mono _ _ _
      | exact field_raised.mono _ _ _
      | exact LeO.none _
      | refine LeO.ite ?_ ?_
      | refine LeO.bind ?_ (fun _ => ?_)

/-! ### field_At: function 45 -/
def field_At.f (l0 : List Int) (a1 : Int) : Option (Int × Int) := (field_long.f (([l0] : List (List Int)))).bind fun t578 => (if t578 = true then (some (0, 1)) else ((field_at.f l0 a1).bind fun t579 => (some (t579, 0))))

/-! ### field_Slope: function 46 -/
def field_Slope.l0 : Nat → List Int → Int → Int → Option (List Int × Int)
  | 0, _, _, _ => none
  | k + 1, x4, x16, x17 => if x17 < x16 then (if (Go.bits .and .i64 x17 1) > 0 then (if 0 ≤ x17 then (if x17 < (x4.length : Int) then (field_Slope.l0 k (x4.set (x17 : Int).toNat 0) x16 (wrap64 (x17 + 1))) else (none)) else (none)) else (field_Slope.l0 k x4 x16 (wrap64 (x17 + 1)))) else ((field_poly.f k x4).bind fun t593 => (some (t593, 0)))
def field_Slope.f (k : Nat) (l0 : List Int) : Option (List Int × Int) := (field_long.f (([l0] : List (List Int)))).bind fun t583 => (if t583 = true then (some (([] : List Int), 1)) else (if 0 ≤ (mn 1 (l0.length : Int)) then (if (mn 1 (l0.length : Int)) ≤ (l0.length : Int) then ((slices_Clone_uint8_uint8.f (l0.drop ((mn 1 (l0.length : Int)) : Int).toNat)).bind fun t589 => (field_Slope.l0 k t589 (t589.length : Int) 0)) else (none)) else (none)))
theorem field_Slope.mono_l : ∀ k, (∀ y0 y1 y2, LeO (field_Slope.l0 k y0 y1 y2) (field_Slope.l0 (k + 1) y0 y1 y2))
  | 0 => fun _ _ _ r h => by simp [field_Slope.l0] at h
  | k + 1 => by
    have ih0 := field_Slope.mono_l k
    · intro y0 y1 y2
      unfold field_Slope.l0
      repeat' first
      | (with_reducible exact ih0 _ _ _)
      | (with_reducible exact field_poly.mono _ _)
      | (with_reducible exact LeO.refl _)
      | (with_reducible exact LeO.none _)
      | (with_reducible refine LeO.ite ?_ ?_)
      | (with_reducible refine LeO.bind ?_ (fun _ => ?_))
      | exact ih0 _ _ _
      | exact field_poly.mono _ _
      | exact LeO.none _
      | refine LeO.ite ?_ ?_
      | refine LeO.bind ?_ (fun _ => ?_)
theorem field_Slope.mono : ∀ a0 k, LeO (field_Slope.f k a0) (field_Slope.f (k + 1) a0) := by
  intro a0 k
  have ih0 := field_Slope.mono_l k
  unfold field_Slope.f
  repeat' first
      | (with_reducible exact ih0 _ _ _)
      | (with_reducible exact field_poly.mono _ _)
      | (with_reducible exact LeO.refl _)
      | (with_reducible exact LeO.none _)
      | (with_reducible refine LeO.ite ?_ ?_)
      | (with_reducible refine LeO.bind ?_ (fun _ => ?_))
      | exact ih0 _ _ _
      | exact field_poly.mono _ _
      | exact LeO.none _
      | refine LeO.ite ?_ ?_
      | refine LeO.bind ?_ (fun _ => ?_)

/-! ### field_Power: function 47 -/
def field_Power.j0 : Nat → Int → Int → Bool → Option (Int × Int)
  | 0, _, _, _ => none
  | k + 1, x0, x1, x6 => if x6 = true then (some (0, 6)) else (if x0 = 0 then (if x1 > 0 then (some (0, 0)) else ((field_raised.f k x0 (Int.tmod (wrap64 ((Int.tmod x1 255) + 255)) 255)).bind fun t596 => (some (t596, 0)))) else ((field_raised.f k x0 (Int.tmod (wrap64 ((Int.tmod x1 255) + 255)) 255)).bind fun t597 => (some (t597, 0))))
def field_Power.f (k : Nat) (a0 : Int) (a1 : Int) : Option (Int × Int) := if a0 = 0 then (field_Power.j0 k a0 a1 (decide (a1 < 0))) else (field_Power.j0 k a0 a1 false)
theorem field_Power.mono_l : ∀ k, (∀ y0 y1 y2, LeO (field_Power.j0 k y0 y1 y2) (field_Power.j0 (k + 1) y0 y1 y2))
  | 0 => fun _ _ _ r h => by simp [field_Power.j0] at h
  | k + 1 => by
    have ih0 := field_Power.mono_l k
    · intro y0 y1 y2
      unfold field_Power.j0
      repeat' first
      | (with_reducible exact ih0 _ _ _)
      | (with_reducible exact field_raised.mono _ _ _)
      | (with_reducible exact LeO.refl _)
      | (with_reducible exact LeO.none _)
      | (with_reducible refine LeO.ite ?_ ?_)
      | (with_reducible refine LeO.bind ?_ (fun _ => ?_))
      | exact ih0 _ _ _
      | exact field_raised.mono _ _ _
      | exact LeO.none _
      | refine LeO.ite ?_ ?_
      | refine LeO.bind ?_ (fun _ => ?_)
theorem field_Power.mono : ∀ a0 a1 k, LeO (field_Power.f k a0 a1) (field_Power.f (k + 1) a0 a1) := by
  intro a0 a1 k
  have ih0 := field_Power.mono_l k
  unfold field_Power.f
  repeat' first
      | (with_reducible exact ih0 _ _ _)
      | (with_reducible exact field_raised.mono _ _ _)
      | (with_reducible exact LeO.refl _)
      | (with_reducible exact LeO.none _)
      | (with_reducible refine LeO.ite ?_ ?_)
      | (with_reducible refine LeO.bind ?_ (fun _ => ?_))
      | exact ih0 _ _ _
      | exact field_raised.mono _ _ _
      | exact LeO.none _
      | refine LeO.ite ?_ ?_
      | refine LeO.bind ?_ (fun _ => ?_)

/-! ### foghornref18_Same: function 85 -/
def foghornref18_Same.l0 : Nat → List Int → List Int → Int → Option (Bool)
  | 0, _, _, _ => none
  | k + 1, x0, x1, x5 => if x5 < (x0.length : Int) then (if 0 ≤ x5 then (if x5 < (x1.length : Int) then (if (rd x0 x5) = (rd x1 x5) then (foghornref18_Same.l0 k x0 x1 (wrap64 (x5 + 1))) else (some false)) else (none)) else (none)) else (some true)
def foghornref18_Same.f (k : Nat) (l0 : List Int) (l1 : List Int) : Option (Bool) := if (l0.length : Int) = (l1.length : Int) then (foghornref18_Same.l0 k l0 l1 0) else (some false)
theorem foghornref18_Same.mono_l : ∀ k, (∀ y0 y1 y2, LeO (foghornref18_Same.l0 k y0 y1 y2) (foghornref18_Same.l0 (k + 1) y0 y1 y2))
  | 0 => fun _ _ _ r h => by simp [foghornref18_Same.l0] at h
  | k + 1 => by
    have ih0 := foghornref18_Same.mono_l k
    · intro y0 y1 y2
      unfold foghornref18_Same.l0
      repeat' first
      | (with_reducible exact ih0 _ _ _)
      | (with_reducible exact LeO.refl _)
      | (with_reducible exact LeO.none _)
      | (with_reducible refine LeO.ite ?_ ?_)
      | (with_reducible refine LeO.bind ?_ (fun _ => ?_))
      | exact ih0 _ _ _
      | exact LeO.none _
      | refine LeO.ite ?_ ?_
      | refine LeO.bind ?_ (fun _ => ?_)
theorem foghornref18_Same.mono : ∀ a0 a1 k, LeO (foghornref18_Same.f k a0 a1) (foghornref18_Same.f (k + 1) a0 a1) := by
  intro a0 a1 k
  have ih0 := foghornref18_Same.mono_l k
  unfold foghornref18_Same.f
  repeat' first
      | (with_reducible exact ih0 _ _ _)
      | (with_reducible exact LeO.refl _)
      | (with_reducible exact LeO.none _)
      | (with_reducible refine LeO.ite ?_ ?_)
      | (with_reducible refine LeO.bind ?_ (fun _ => ?_))
      | exact ih0 _ _ _
      | exact LeO.none _
      | refine LeO.ite ?_ ?_
      | refine LeO.bind ?_ (fun _ => ?_)

/-! ### foghornlaw18_awake: function 48 -/
def foghornlaw18_awake.f (k : Nat)  : Option (Bool) := (field_Product.f k (([1, 1] : List Int)) (([1, 1] : List Int))).bind fun bt606 => ((field_Times.f k 2 128).bind fun t610 => (if t610 = 29 then (if bt606.2 = 0 then ((foghornref18_Same.f k bt606.1 (([1, 0, 1] : List Int))).bind fun t614 => (some t614)) else (some false)) else (some false)))
theorem foghornlaw18_awake.mono : ∀ k, LeO (foghornlaw18_awake.f k ) (foghornlaw18_awake.f (k + 1) ) := by
  intro  k
  unfold foghornlaw18_awake.f
  repeat' first
      | (with_reducible exact field_Product.mono _ _ _)
      | (with_reducible exact field_Times.mono _ _ _)
      | (with_reducible exact foghornref18_Same.mono _ _ _)
      | (with_reducible exact LeO.refl _)
      | (with_reducible exact LeO.none _)
      | (with_reducible refine LeO.ite ?_ ?_)
      | (with_reducible refine LeO.bind ?_ (fun _ => ?_))
      | exact field_Product.mono _ _ _
      | exact field_Times.mono _ _ _
      | exact foghornref18_Same.mono _ _ _
      | exact LeO.none _
      | refine LeO.ite ?_ ?_
      | refine LeO.bind ?_ (fun _ => ?_)

/-! ### foghornlaw18_FieldNone: function 10 -/
def foghornlaw18_FieldNone.f (k : Nat)  : Option (Bool) := if 512 ≤ 281474976710656 then ((some (List.replicate 512 0 : List Int)).bind fun y615 => (if 511 < (y615.length : Int) then ((some (y615.set (511 : Int).toNat 1 : List Int)).bind fun y618 => (if 513 ≤ 281474976710656 then ((field_Sum.f k (List.replicate 513 0) ([] : List Int)).bind fun bt622 => ((field_Sum.f k ([] : List Int) ([] : List Int)).bind fun bt626 => ((field_Product.f k y618 (([0, 1] : List Int))).bind fun bt633 => ((field_Product.f k y618 (([5] : List Int))).bind fun bt640 => ((field_Product.f k y618 ([] : List Int)).bind fun bt644 => ((field_Product.f k (List.replicate 512 0) (List.replicate 512 0)).bind fun bt654 => (if 9 ≤ 281474976710656 then ((field_Divide.f k ([] : List Int) (List.replicate 9 0)).bind fun bt661 => ((field_Roots.f k (List.replicate 9 0)).bind fun bt671 => ((field_Roots.f k (([1] : List Int))).bind fun bt678 => ((field_Of.f k (List.replicate 512 0)).bind fun bt685 => (if 511 ≤ 281474976710656 then ((field_Of.f k (List.replicate 511 0)).bind fun bt692 => ((field_Through.f k ([] : List (S112))).bind fun bt696 => (if 3 ≤ 281474976710656 then ((field_Gcd.f k ([] : List Int) (List.replicate 3 0)).bind fun bt703 => ((field_At.f (List.replicate 513 0) 0).bind fun bt710 => ((field_Slope.f k (List.replicate 513 0)).bind fun bt715 => ((field_Power.f k 0 0).bind fun bt719 => (if bt622.2 = 1 then (if (bt626.1.length : Int) = 0 then (if bt626.2 = 0 then (if bt633.2 = 1 then (if (bt640.1.length : Int) = 512 then (if bt640.2 = 0 then (if (bt644.1.length : Int) = 0 then (if bt644.2 = 0 then (if (bt654.1.length : Int) = 0 then (if bt654.2 = 0 then (if bt661.2.2 = 6 then (if bt671.2 = 6 then (if (bt678.1.length : Int) = 0 then (if bt678.2 = 0 then (if bt685.2 = 1 then (if (bt692.1.length : Int) = 512 then (if bt692.2 = 0 then (if (bt696.1.length : Int) = 0 then (if bt696.2 = 0 then (if (bt703.1.length : Int) = 0 then (if bt703.2 = 0 then (if bt710.2 = 1 then (if bt715.2 = 1 then (if bt719.1 = 1 then (if bt719.2 = 0 then ((foghornlaw18_awake.f k).bind fun t721 => (some t721)) else (some false)) else (some false)) else (some false)) else (some false)) else (some false)) else (some false)) else (some false)) else (some false)) else (some false)) else (some false)) else (some false)) else (some false)) else (some false)) else (some false)) else (some false)) else (some false)) else (some false)) else (some false)) else (some false)) else (some false)) else (some false)) else (some false)) else (some false)) else (some false)) else (some false)))))) else (none)))) else (none)))))) else (none)))))))) else (none))) else (none))) else (none)
theorem foghornlaw18_FieldNone.mono : ∀ k, LeO (foghornlaw18_FieldNone.f k ) (foghornlaw18_FieldNone.f (k + 1) ) := by
  intro  k
  unfold foghornlaw18_FieldNone.f
  repeat' first
      | (with_reducible exact field_Divide.mono _ _ _)
      | (with_reducible exact field_Gcd.mono _ _ _)
      | (with_reducible exact field_Of.mono _ _)
      | (with_reducible exact field_Power.mono _ _ _)
      | (with_reducible exact field_Product.mono _ _ _)
      | (with_reducible exact field_Roots.mono _ _)
      | (with_reducible exact field_Slope.mono _ _)
      | (with_reducible exact field_Sum.mono _ _ _)
      | (with_reducible exact field_Through.mono _ _)
      | (with_reducible exact foghornlaw18_awake.mono _)
      | (with_reducible exact LeO.refl _)
      | (with_reducible exact LeO.none _)
      | (with_reducible refine LeO.ite ?_ ?_)
      | (with_reducible refine LeO.bind ?_ (fun _ => ?_))
      | exact field_Divide.mono _ _ _
      | exact field_Gcd.mono _ _ _
      | exact field_Of.mono _ _
      | exact field_Power.mono _ _ _
      | exact field_Product.mono _ _ _
      | exact field_Roots.mono _ _
      | exact field_Slope.mono _ _
      | exact field_Sum.mono _ _ _
      | exact field_Through.mono _ _
      | exact foghornlaw18_awake.mono _
      | exact LeO.none _
      | refine LeO.ite ?_ ?_
      | refine LeO.bind ?_ (fun _ => ?_)
def foghornlaw18_FieldNone.T8 : Bool × List (List Nat × List Nat) := (true, [([], []), ([], []), ([0, 1], [0, 1]), ([2], [2]), ([3], [3]), ([3], [3]), ([4, 2, 0, 1, 2, 3, 4], [4]), ([5, 6, 0, 1, 2, 3, 4, 5, 6], [5])])
def foghornlaw18_FieldNone.B8 : List Nat := [0, 0, 3, 7, 15, 15, 31, 127]
theorem foghornlaw18_FieldNone.tab8 : rtab .any (opsOf Try.f10 8) = foghornlaw18_FieldNone.T8 := by kernel_rfl
theorem foghornlaw18_FieldNone.bits8 : waitsOk foghornlaw18_FieldNone.T8.2 foghornlaw18_FieldNone.B8 = true := by kernel_rfl
/-- THE ONE PURE STATEMENT of foghornlaw18_FieldNone: yours. -/
def foghornlaw18_FieldNone.Pure : Prop := ∃ k, foghornlaw18_FieldNone.f k  = some true

/-! ### mend_marked: function 99 -/
def mend_marked.l0 : Nat → Int → List Bool → Bool → List Int → Int → Int → Option (List Bool × Bool)
  | 0, _, _, _, _, _, _ => none
  | k + 1, x1, x6, x7, x12, x13, x14 => if x14 < x13 then (if 0 ≤ x14 then (if x14 < (x12.length : Int) then (if (rd x12 x14) < 0 then (some (x6, false)) else (if (rd x12 x14) ≥ x1 then (some (x6, false)) else (if 0 ≤ (rd x12 x14) then (if (rd x12 x14) < (x6.length : Int) then (if rdOf false x6 (rd x12 x14) = true then (some (x6, false)) else (mend_marked.l0 k x1 (x6.set ((rd x12 x14) : Int).toNat true) x7 x12 x13 (wrap64 (x14 + 1)))) else (none)) else (none)))) else (none)) else (none)) else (some (x6, x7))
def mend_marked.f (k : Nat) (l0 : List Int) (a1 : Int) : Option (List Bool × Bool) := if 0 ≤ a1 then (if (a1 : Int).toNat ≤ 281474976710656 then (mend_marked.l0 k a1 (List.replicate (a1 : Int).toNat false) true l0 (l0.length : Int) 0) else (none)) else (none)
theorem mend_marked.mono_l : ∀ k, (∀ y0 y1 y2 y3 y4 y5, LeO (mend_marked.l0 k y0 y1 y2 y3 y4 y5) (mend_marked.l0 (k + 1) y0 y1 y2 y3 y4 y5))
  | 0 => fun _ _ _ _ _ _ r h => by simp [mend_marked.l0] at h
  | k + 1 => by
    have ih0 := mend_marked.mono_l k
    · intro y0 y1 y2 y3 y4 y5
      unfold mend_marked.l0
      repeat' first
      | (with_reducible exact ih0 _ _ _ _ _ _)
      | (with_reducible exact LeO.refl _)
      | (with_reducible exact LeO.none _)
      | (with_reducible refine LeO.ite ?_ ?_)
      | (with_reducible refine LeO.bind ?_ (fun _ => ?_))
      | exact ih0 _ _ _ _ _ _
      | exact LeO.none _
      | refine LeO.ite ?_ ?_
      | refine LeO.bind ?_ (fun _ => ?_)
theorem mend_marked.mono : ∀ a0 a1 k, LeO (mend_marked.f k a0 a1) (mend_marked.f (k + 1) a0 a1) := by
  intro a0 a1 k
  have ih0 := mend_marked.mono_l k
  unfold mend_marked.f
  repeat' first
      | (with_reducible exact ih0 _ _ _ _ _ _)
      | (with_reducible exact LeO.refl _)
      | (with_reducible exact LeO.none _)
      | (with_reducible refine LeO.ite ?_ ?_)
      | (with_reducible refine LeO.bind ?_ (fun _ => ?_))
      | exact ih0 _ _ _ _ _ _
      | exact LeO.none _
      | refine LeO.ite ?_ ?_
      | refine LeO.bind ?_ (fun _ => ?_)

/-! ### mend_check: function 86 -/
def mend_check.f (k : Nat) (a0 : ByteArray) (a1 : Int) (l2 : List Int) : Option (List Bool × Int) := (reed_Check.f (a0.size : Int) a1).bind fun t728 => (if t728 = 0 then ((mend_marked.f k l2 (a0.size : Int)).bind fun bt729 => (if bt729.2 = true then (some (bt729.1, 0)) else (some (([] : List Bool), 1)))) else (some (([] : List Bool), 1)))
theorem mend_check.mono : ∀ a0 a1 a2 k, LeO (mend_check.f k a0 a1 a2) (mend_check.f (k + 1) a0 a1 a2) := by
  intro a0 a1 a2 k
  unfold mend_check.f
  repeat' first
      | (with_reducible exact mend_marked.mono _ _ _)
      | (with_reducible exact LeO.refl _)
      | (with_reducible exact LeO.none _)
      | (with_reducible refine LeO.ite ?_ ?_)
      | (with_reducible refine LeO.bind ?_ (fun _ => ?_))
      | exact mend_marked.mono _ _ _
      | exact LeO.none _
      | refine LeO.ite ?_ ?_
      | refine LeO.bind ?_ (fun _ => ?_)

/-! ### mend_unlike: function 88 -/
def mend_unlike.l0 : Nat → ByteArray → ByteArray → List Bool → List Int → Int → Int → Option (List Int)
  | 0, _, _, _, _, _, _ => none
  | k + 1, x0, x1, x2, x7, x10, x11 => if x11 < x10 then (if 0 ≤ x11 then (if x11 < (x0.size : Int) then (if x11 < (x1.size : Int) then (if (bt x0 x11) = (bt x1 x11) then (mend_unlike.l0 k x0 x1 x2 x7 x10 (wrap64 (x11 + 1))) else (if x11 < (x2.length : Int) then (if rdOf false x2 x11 = true then (mend_unlike.l0 k x0 x1 x2 x7 x10 (wrap64 (x11 + 1))) else (if x7.length < 17592186044416 then (mend_unlike.l0 k x0 x1 x2 (x7 ++ [x11]) x10 (wrap64 (x11 + 1))) else (none))) else (none))) else (none)) else (none)) else (none)) else (some x7)
def mend_unlike.f (k : Nat) (a0 : ByteArray) (a1 : ByteArray) (l2 : List Bool) : Option (List Int) := mend_unlike.l0 k a0 a1 l2 ([] : List Int) (a0.size : Int) 0
theorem mend_unlike.mono_l : ∀ k, (∀ y0 y1 y2 y3 y4 y5, LeO (mend_unlike.l0 k y0 y1 y2 y3 y4 y5) (mend_unlike.l0 (k + 1) y0 y1 y2 y3 y4 y5))
  | 0 => fun _ _ _ _ _ _ r h => by simp [mend_unlike.l0] at h
  | k + 1 => by
    have ih0 := mend_unlike.mono_l k
    · intro y0 y1 y2 y3 y4 y5
      unfold mend_unlike.l0
      repeat' first
      | (with_reducible exact ih0 _ _ _ _ _ _)
      | (with_reducible exact LeO.refl _)
      | (with_reducible exact LeO.none _)
      | (with_reducible refine LeO.ite ?_ ?_)
      | (with_reducible refine LeO.bind ?_ (fun _ => ?_))
      | exact ih0 _ _ _ _ _ _
      | exact LeO.none _
      | refine LeO.ite ?_ ?_
      | refine LeO.bind ?_ (fun _ => ?_)
theorem mend_unlike.mono : ∀ a0 a1 a2 k, LeO (mend_unlike.f k a0 a1 a2) (mend_unlike.f (k + 1) a0 a1 a2) := by
  intro a0 a1 a2 k
  have ih0 := mend_unlike.mono_l k
  unfold mend_unlike.f
  repeat' first
      | (with_reducible exact ih0 _ _ _ _ _ _)
      | (with_reducible exact LeO.refl _)
      | (with_reducible exact LeO.none _)
      | (with_reducible refine LeO.ite ?_ ?_)
      | (with_reducible refine LeO.bind ?_ (fun _ => ?_))
      | exact ih0 _ _ _ _ _ _
      | exact LeO.none _
      | refine LeO.ite ?_ ?_
      | refine LeO.bind ?_ (fun _ => ?_)

/-! ### mend_within: function 90 -/
def mend_within.f (k : Nat) (a0 : ByteArray) (a1 : ByteArray) (a2 : Int) (l3 : List Bool) (a4 : Int) : Option (Bool) := (mend_unlike.f k a0 a1 l3).bind fun t737 => (some (decide ((wrap64 ((wrap64 (2 * (t737.length : Int))) + a4)) ≤ a2)))
theorem mend_within.mono : ∀ a0 a1 a2 a3 a4 k, LeO (mend_within.f k a0 a1 a2 a3 a4) (mend_within.f (k + 1) a0 a1 a2 a3 a4) := by
  intro a0 a1 a2 a3 a4 k
  unfold mend_within.f
  repeat' first
      | (with_reducible exact mend_unlike.mono _ _ _ _)
      | (with_reducible exact LeO.refl _)
      | (with_reducible exact LeO.none _)
      | (with_reducible refine LeO.ite ?_ ?_)
      | (with_reducible refine LeO.bind ?_ (fun _ => ?_))
      | exact mend_unlike.mono _ _ _ _
      | exact LeO.none _
      | refine LeO.ite ?_ ?_
      | refine LeO.bind ?_ (fun _ => ?_)

/-! ### mend_unit: function 106 -/
def mend_unit.f (k : Nat) (a0 : Int) (a1 : Int) : Option (Int) := (field_Exp.f k (wrap64 ((wrap64 (a1 - 1)) - a0))).bind fun t740 => (some t740)
theorem mend_unit.mono : ∀ a0 a1 k, LeO (mend_unit.f k a0 a1) (mend_unit.f (k + 1) a0 a1) := by
  intro a0 a1 k
  unfold mend_unit.f
  repeat' first
      | (with_reducible exact field_Exp.mono _ _)
      | (with_reducible exact LeO.refl _)
      | (with_reducible exact LeO.none _)
      | (with_reducible refine LeO.ite ?_ ?_)
      | (with_reducible refine LeO.bind ?_ (fun _ => ?_))
      | exact field_Exp.mono _ _
      | exact LeO.none _
      | refine LeO.ite ?_ ?_
      | refine LeO.bind ?_ (fun _ => ?_)

/-! ### field_Over: function 107 -/
def field_Over.f (k : Nat) (a0 : Int) (a1 : Int) : Option (Int × Int) := if a1 = 0 then (some (0, 6)) else ((field_raised.f k a1 254).bind fun t741 => ((field_Times.f k a0 t741).bind fun t742 => (some (t742, 0))))
theorem field_Over.mono : ∀ a0 a1 k, LeO (field_Over.f k a0 a1) (field_Over.f (k + 1) a0 a1) := by
  intro a0 a1 k
  unfold field_Over.f
  repeat' first
      | (with_reducible exact field_Times.mono _ _ _)
      | (with_reducible exact field_raised.mono _ _ _)
      | (with_reducible exact LeO.refl _)
      | (with_reducible exact LeO.none _)
      | (with_reducible refine LeO.ite ?_ ?_)
      | (with_reducible refine LeO.bind ?_ (fun _ => ?_))
      | exact field_Times.mono _ _ _
      | exact field_raised.mono _ _ _
      | exact LeO.none _
      | refine LeO.ite ?_ ?_
      | refine LeO.bind ?_ (fun _ => ?_)

/-! ### mend_rising: function 89 -/
def mend_rising.l0 : Nat → List Int → List Bool → Int → Int → Option (List Int)
  | 0, _, _, _, _ => none
  | k + 1, x3, x6, x7, x8 => if x8 < x7 then (if 0 ≤ x8 then (if x8 < (x6.length : Int) then (if rdOf false x6 x8 = true then (if x3.length < 17592186044416 then (mend_rising.l0 k (x3 ++ [x8]) x6 x7 (wrap64 (x8 + 1))) else (none)) else (mend_rising.l0 k x3 x6 x7 (wrap64 (x8 + 1)))) else (none)) else (none)) else (some x3)
def mend_rising.f (k : Nat) (l0 : List Bool) : Option (List Int) := mend_rising.l0 k ([] : List Int) l0 (l0.length : Int) 0
theorem mend_rising.mono_l : ∀ k, (∀ y0 y1 y2 y3, LeO (mend_rising.l0 k y0 y1 y2 y3) (mend_rising.l0 (k + 1) y0 y1 y2 y3))
  | 0 => fun _ _ _ _ r h => by simp [mend_rising.l0] at h
  | k + 1 => by
    have ih0 := mend_rising.mono_l k
    · intro y0 y1 y2 y3
      unfold mend_rising.l0
      repeat' first
      | (with_reducible exact ih0 _ _ _ _)
      | (with_reducible exact LeO.refl _)
      | (with_reducible exact LeO.none _)
      | (with_reducible refine LeO.ite ?_ ?_)
      | (with_reducible refine LeO.bind ?_ (fun _ => ?_))
      | exact ih0 _ _ _ _
      | exact LeO.none _
      | refine LeO.ite ?_ ?_
      | refine LeO.bind ?_ (fun _ => ?_)
theorem mend_rising.mono : ∀ a0 k, LeO (mend_rising.f k a0) (mend_rising.f (k + 1) a0) := by
  intro a0 k
  have ih0 := mend_rising.mono_l k
  unfold mend_rising.f
  repeat' first
      | (with_reducible exact ih0 _ _ _ _)
      | (with_reducible exact LeO.refl _)
      | (with_reducible exact LeO.none _)
      | (with_reducible refine LeO.ite ?_ ?_)
      | (with_reducible refine LeO.bind ?_ (fun _ => ?_))
      | exact ih0 _ _ _ _
      | exact LeO.none _
      | refine LeO.ite ?_ ?_
      | refine LeO.bind ?_ (fun _ => ?_)

/-! ### foghornlaw20_sent: function 50 -/
def foghornlaw20_sent.f (k : Nat) (a0 : ByteArray) (a1 : Int) : Option (ByteArray × Int) := if (a0.size : Int) > (wrap64 (255 - (wrap64 (2 + (wrap64 (2 * (Int.tmod (wrap64 ((Int.tmod a1 32) + 32)) 32))))))) then (if 0 ≤ (wrap64 (255 - (wrap64 (2 + (wrap64 (2 * (Int.tmod (wrap64 ((Int.tmod a1 32) + 32)) 32))))))) then (if (wrap64 (255 - (wrap64 (2 + (wrap64 (2 * (Int.tmod (wrap64 ((Int.tmod a1 32) + 32)) 32))))))) ≤ (a0.size : Int) then (if (a0.extract 0 ((wrap64 (255 - (wrap64 (2 + (wrap64 (2 * (Int.tmod (wrap64 ((Int.tmod a1 32) + 32)) 32))))))) : Int).toNat).toList = ([] : List UInt8) then ((foghornref19_Encode.f k (⟨#[97]⟩ : ByteArray) (wrap64 (2 + (wrap64 (2 * (Int.tmod (wrap64 ((Int.tmod a1 32) + 32)) 32)))))).bind fun bt756 => (some (bt756.1, wrap64 (2 + (wrap64 (2 * (Int.tmod (wrap64 ((Int.tmod a1 32) + 32)) 32))))))) else ((foghornref19_Encode.f k (a0.extract 0 ((wrap64 (255 - (wrap64 (2 + (wrap64 (2 * (Int.tmod (wrap64 ((Int.tmod a1 32) + 32)) 32))))))) : Int).toNat) (wrap64 (2 + (wrap64 (2 * (Int.tmod (wrap64 ((Int.tmod a1 32) + 32)) 32)))))).bind fun bt758 => (some (bt758.1, wrap64 (2 + (wrap64 (2 * (Int.tmod (wrap64 ((Int.tmod a1 32) + 32)) 32)))))))) else (none)) else (none)) else (if a0.toList = ([] : List UInt8) then ((foghornref19_Encode.f k (⟨#[97]⟩ : ByteArray) (wrap64 (2 + (wrap64 (2 * (Int.tmod (wrap64 ((Int.tmod a1 32) + 32)) 32)))))).bind fun bt760 => (some (bt760.1, wrap64 (2 + (wrap64 (2 * (Int.tmod (wrap64 ((Int.tmod a1 32) + 32)) 32))))))) else ((foghornref19_Encode.f k a0 (wrap64 (2 + (wrap64 (2 * (Int.tmod (wrap64 ((Int.tmod a1 32) + 32)) 32)))))).bind fun bt762 => (some (bt762.1, wrap64 (2 + (wrap64 (2 * (Int.tmod (wrap64 ((Int.tmod a1 32) + 32)) 32))))))))
theorem foghornlaw20_sent.mono : ∀ a0 a1 k, LeO (foghornlaw20_sent.f k a0 a1) (foghornlaw20_sent.f (k + 1) a0 a1) := by
  intro a0 a1 k
  unfold foghornlaw20_sent.f
  repeat' first
      | (with_reducible exact foghornref19_Encode.mono _ _ _)
      | (with_reducible exact LeO.refl _)
      | (with_reducible exact LeO.none _)
      | (with_reducible refine LeO.ite ?_ ?_)
      | (with_reducible refine LeO.bind ?_ (fun _ => ?_))
      | exact foghornref19_Encode.mono _ _ _
      | exact LeO.none _
      | refine LeO.ite ?_ ?_
      | refine LeO.bind ?_ (fun _ => ?_)

/-! ### foghornref20_Numbers: function 52 -/
def foghornref20_Numbers.l0 : Nat → List Int → List Int → Int → Option (Bool)
  | 0, _, _, _ => none
  | k + 1, x0, x1, x5 => if x5 < (x0.length : Int) then (if 0 ≤ x5 then (if x5 < (x1.length : Int) then (if (rd x0 x5) = (rd x1 x5) then (foghornref20_Numbers.l0 k x0 x1 (wrap64 (x5 + 1))) else (some false)) else (none)) else (none)) else (some true)
def foghornref20_Numbers.f (k : Nat) (l0 : List Int) (l1 : List Int) : Option (Bool) := if (l0.length : Int) = (l1.length : Int) then (foghornref20_Numbers.l0 k l0 l1 0) else (some false)
theorem foghornref20_Numbers.mono_l : ∀ k, (∀ y0 y1 y2, LeO (foghornref20_Numbers.l0 k y0 y1 y2) (foghornref20_Numbers.l0 (k + 1) y0 y1 y2))
  | 0 => fun _ _ _ r h => by simp [foghornref20_Numbers.l0] at h
  | k + 1 => by
    have ih0 := foghornref20_Numbers.mono_l k
    · intro y0 y1 y2
      unfold foghornref20_Numbers.l0
      repeat' first
      | (with_reducible exact ih0 _ _ _)
      | (with_reducible exact LeO.refl _)
      | (with_reducible exact LeO.none _)
      | (with_reducible refine LeO.ite ?_ ?_)
      | (with_reducible refine LeO.bind ?_ (fun _ => ?_))
      | exact ih0 _ _ _
      | exact LeO.none _
      | refine LeO.ite ?_ ?_
      | refine LeO.bind ?_ (fun _ => ?_)
theorem foghornref20_Numbers.mono : ∀ a0 a1 k, LeO (foghornref20_Numbers.f k a0 a1) (foghornref20_Numbers.f (k + 1) a0 a1) := by
  intro a0 a1 k
  have ih0 := foghornref20_Numbers.mono_l k
  unfold foghornref20_Numbers.f
  repeat' first
      | (with_reducible exact ih0 _ _ _)
      | (with_reducible exact LeO.refl _)
      | (with_reducible exact LeO.none _)
      | (with_reducible refine LeO.ite ?_ ?_)
      | (with_reducible refine LeO.bind ?_ (fun _ => ?_))
      | exact ih0 _ _ _
      | exact LeO.none _
      | refine LeO.ite ?_ ?_
      | refine LeO.bind ?_ (fun _ => ?_)

/-! ### mend_Within: function 53 -/
def mend_Within.j0 : Nat → ByteArray → ByteArray → Int → List Int → List Bool → Bool → Option (Bool × Int)
  | 0, _, _, _, _, _, _ => none
  | k + 1, x0, x1, x2, x3, x10, x29 => if x29 = true then (some (false, 1)) else ((reed_Whole.f k x1 x2).bind fun bt770 => (if bt770.1 = true then ((mend_within.f k x0 x1 x2 x10 (x3.length : Int)).bind fun t772 => (some (t772, 0))) else (some (false, 1))))
def mend_Within.f (k : Nat) (a0 : ByteArray) (a1 : ByteArray) (a2 : Int) (l3 : List Int) : Option (Bool × Int) := (mend_check.f k a0 a2 l3).bind fun bt766 => (if bt766.2 = 0 then (mend_Within.j0 k a0 a1 a2 l3 bt766.1 ((a1.size : Int) != (a0.size : Int))) else (mend_Within.j0 k a0 a1 a2 l3 bt766.1 true))
theorem mend_Within.mono_l : ∀ k, (∀ y0 y1 y2 y3 y4 y5, LeO (mend_Within.j0 k y0 y1 y2 y3 y4 y5) (mend_Within.j0 (k + 1) y0 y1 y2 y3 y4 y5))
  | 0 => fun _ _ _ _ _ _ r h => by simp [mend_Within.j0] at h
  | k + 1 => by
    have ih0 := mend_Within.mono_l k
    · intro y0 y1 y2 y3 y4 y5
      unfold mend_Within.j0
      repeat' first
      | (with_reducible exact ih0 _ _ _ _ _ _)
      | (with_reducible exact mend_check.mono _ _ _ _)
      | (with_reducible exact mend_within.mono _ _ _ _ _ _)
      | (with_reducible exact reed_Whole.mono _ _ _)
      | (with_reducible exact LeO.refl _)
      | (with_reducible exact LeO.none _)
      | (with_reducible refine LeO.ite ?_ ?_)
      | (with_reducible refine LeO.bind ?_ (fun _ => ?_))
      | exact ih0 _ _ _ _ _ _
      | exact mend_check.mono _ _ _ _
      | exact mend_within.mono _ _ _ _ _ _
      | exact reed_Whole.mono _ _ _
      | exact LeO.none _
      | refine LeO.ite ?_ ?_
      | refine LeO.bind ?_ (fun _ => ?_)
theorem mend_Within.mono : ∀ a0 a1 a2 a3 k, LeO (mend_Within.f k a0 a1 a2 a3) (mend_Within.f (k + 1) a0 a1 a2 a3) := by
  intro a0 a1 a2 a3 k
  have ih0 := mend_Within.mono_l k
  unfold mend_Within.f
  repeat' first
      | (with_reducible exact ih0 _ _ _ _ _ _)
      | (with_reducible exact mend_check.mono _ _ _ _)
      | (with_reducible exact mend_within.mono _ _ _ _ _ _)
      | (with_reducible exact reed_Whole.mono _ _ _)
      | (with_reducible exact LeO.refl _)
      | (with_reducible exact LeO.none _)
      | (with_reducible refine LeO.ite ?_ ?_)
      | (with_reducible refine LeO.bind ?_ (fun _ => ?_))
      | exact ih0 _ _ _ _ _ _
      | exact mend_check.mono _ _ _ _
      | exact mend_within.mono _ _ _ _ _ _
      | exact reed_Whole.mono _ _ _
      | exact LeO.none _
      | refine LeO.ite ?_ ?_
      | refine LeO.bind ?_ (fun _ => ?_)

/-! ### foghornref20_places: function 97 -/
def foghornref20_places.l0 : Nat → List Int → Int → List Bool → Int → Option (List Bool × Bool)
  | 0, _, _, _, _ => none
  | k + 1, x0, x1, x6, x7 => if x7 < (x0.length : Int) then (if 0 ≤ x7 then (if (rd x0 x7) < 0 then (some (([] : List Bool), false)) else (if (rd x0 x7) ≥ x1 then (some (([] : List Bool), false)) else (if 0 ≤ (rd x0 x7) then (if (rd x0 x7) < (x6.length : Int) then (if rdOf false x6 (rd x0 x7) = true then (some (([] : List Bool), false)) else (foghornref20_places.l0 k x0 x1 (x6.set ((rd x0 x7) : Int).toNat true) (wrap64 (x7 + 1)))) else (none)) else (none)))) else (none)) else (some (x6, true))
def foghornref20_places.f (k : Nat) (l0 : List Int) (a1 : Int) : Option (List Bool × Bool) := if 0 ≤ a1 then (if (a1 : Int).toNat ≤ 281474976710656 then (foghornref20_places.l0 k l0 a1 (List.replicate (a1 : Int).toNat false) 0) else (none)) else (none)
theorem foghornref20_places.mono_l : ∀ k, (∀ y0 y1 y2 y3, LeO (foghornref20_places.l0 k y0 y1 y2 y3) (foghornref20_places.l0 (k + 1) y0 y1 y2 y3))
  | 0 => fun _ _ _ _ r h => by simp [foghornref20_places.l0] at h
  | k + 1 => by
    have ih0 := foghornref20_places.mono_l k
    · intro y0 y1 y2 y3
      unfold foghornref20_places.l0
      repeat' first
      | (with_reducible exact ih0 _ _ _ _)
      | (with_reducible exact LeO.refl _)
      | (with_reducible exact LeO.none _)
      | (with_reducible refine LeO.ite ?_ ?_)
      | (with_reducible refine LeO.bind ?_ (fun _ => ?_))
      | exact ih0 _ _ _ _
      | exact LeO.none _
      | refine LeO.ite ?_ ?_
      | refine LeO.bind ?_ (fun _ => ?_)
theorem foghornref20_places.mono : ∀ a0 a1 k, LeO (foghornref20_places.f k a0 a1) (foghornref20_places.f (k + 1) a0 a1) := by
  intro a0 a1 k
  have ih0 := foghornref20_places.mono_l k
  unfold foghornref20_places.f
  repeat' first
      | (with_reducible exact ih0 _ _ _ _)
      | (with_reducible exact LeO.refl _)
      | (with_reducible exact LeO.none _)
      | (with_reducible refine LeO.ite ?_ ?_)
      | (with_reducible refine LeO.bind ?_ (fun _ => ?_))
      | exact ih0 _ _ _ _
      | exact LeO.none _
      | refine LeO.ite ?_ ?_
      | refine LeO.bind ?_ (fun _ => ?_)

/-! ### foghornref20_Wrong: function 91 -/
def foghornref20_Wrong.f (k : Nat) (a0 : ByteArray) (a1 : Int) (l2 : List Int) : Option (List Bool × Int) := (foghornref19_Check.f (a0.size : Int) a1).bind fun t785 => (if t785 = 0 then ((foghornref20_places.f k l2 (a0.size : Int)).bind fun bt786 => (if bt786.2 = true then (some (bt786.1, 0)) else (some (([] : List Bool), 1)))) else (some (([] : List Bool), 1)))
theorem foghornref20_Wrong.mono : ∀ a0 a1 a2 k, LeO (foghornref20_Wrong.f k a0 a1 a2) (foghornref20_Wrong.f (k + 1) a0 a1 a2) := by
  intro a0 a1 a2 k
  unfold foghornref20_Wrong.f
  repeat' first
      | (with_reducible exact foghornref20_places.mono _ _ _)
      | (with_reducible exact LeO.refl _)
      | (with_reducible exact LeO.none _)
      | (with_reducible refine LeO.ite ?_ ?_)
      | (with_reducible refine LeO.bind ?_ (fun _ => ?_))
      | exact foghornref20_places.mono _ _ _
      | exact LeO.none _
      | refine LeO.ite ?_ ?_
      | refine LeO.bind ?_ (fun _ => ?_)

/-! ### foghornref20_rising: function 95 -/
def foghornref20_rising.l0 : Nat → List Bool → List Int → Int → Option (List Int)
  | 0, _, _, _ => none
  | k + 1, x0, x3, x4 => if x4 < (x0.length : Int) then (if 0 ≤ x4 then (if rdOf false x0 x4 = true then (if x3.length < 17592186044416 then (foghornref20_rising.l0 k x0 (x3 ++ [x4]) (wrap64 (x4 + 1))) else (none)) else (foghornref20_rising.l0 k x0 x3 (wrap64 (x4 + 1)))) else (none)) else (some x3)
def foghornref20_rising.f (k : Nat) (l0 : List Bool) : Option (List Int) := foghornref20_rising.l0 k l0 ([] : List Int) 0
theorem foghornref20_rising.mono_l : ∀ k, (∀ y0 y1 y2, LeO (foghornref20_rising.l0 k y0 y1 y2) (foghornref20_rising.l0 (k + 1) y0 y1 y2))
  | 0 => fun _ _ _ r h => by simp [foghornref20_rising.l0] at h
  | k + 1 => by
    have ih0 := foghornref20_rising.mono_l k
    · intro y0 y1 y2
      unfold foghornref20_rising.l0
      repeat' first
      | (with_reducible exact ih0 _ _ _)
      | (with_reducible exact LeO.refl _)
      | (with_reducible exact LeO.none _)
      | (with_reducible refine LeO.ite ?_ ?_)
      | (with_reducible refine LeO.bind ?_ (fun _ => ?_))
      | exact ih0 _ _ _
      | exact LeO.none _
      | refine LeO.ite ?_ ?_
      | refine LeO.bind ?_ (fun _ => ?_)
theorem foghornref20_rising.mono : ∀ a0 k, LeO (foghornref20_rising.f k a0) (foghornref20_rising.f (k + 1) a0) := by
  intro a0 k
  have ih0 := foghornref20_rising.mono_l k
  unfold foghornref20_rising.f
  repeat' first
      | (with_reducible exact ih0 _ _ _)
      | (with_reducible exact LeO.refl _)
      | (with_reducible exact LeO.none _)
      | (with_reducible refine LeO.ite ?_ ?_)
      | (with_reducible refine LeO.bind ?_ (fun _ => ?_))
      | exact ih0 _ _ _
      | exact LeO.none _
      | refine LeO.ite ?_ ?_
      | refine LeO.bind ?_ (fun _ => ?_)

/-! ### foghornref20_unlike: function 96 -/
def foghornref20_unlike.l0 : Nat → ByteArray → ByteArray → List Bool → List Bool → Int → Option (List Int)
  | 0, _, _, _, _, _ => none
  | k + 1, x0, x1, x2, x7, x8 => if x8 < (x0.size : Int) then (if 0 ≤ x8 then (if x8 < (x1.size : Int) then (if (bt x0 x8) = (bt x1 x8) then (if x8 < (x7.length : Int) then (foghornref20_unlike.l0 k x0 x1 x2 (x7.set (x8 : Int).toNat false) (wrap64 (x8 + 1))) else (none)) else (if x8 < (x2.length : Int) then (if x8 < (x7.length : Int) then (foghornref20_unlike.l0 k x0 x1 x2 (x7.set (x8 : Int).toNat (!(rdOf false x2 x8))) (wrap64 (x8 + 1))) else (none)) else (none))) else (none)) else (none)) else ((foghornref20_rising.f k x7).bind fun t800 => (some t800))
def foghornref20_unlike.f (k : Nat) (a0 : ByteArray) (a1 : ByteArray) (l2 : List Bool) : Option (List Int) := if 0 ≤ (a0.size : Int) then (if ((a0.size : Int) : Int).toNat ≤ 281474976710656 then (foghornref20_unlike.l0 k a0 a1 l2 (List.replicate ((a0.size : Int) : Int).toNat false) 0) else (none)) else (none)
theorem foghornref20_unlike.mono_l : ∀ k, (∀ y0 y1 y2 y3 y4, LeO (foghornref20_unlike.l0 k y0 y1 y2 y3 y4) (foghornref20_unlike.l0 (k + 1) y0 y1 y2 y3 y4))
  | 0 => fun _ _ _ _ _ r h => by simp [foghornref20_unlike.l0] at h
  | k + 1 => by
    have ih0 := foghornref20_unlike.mono_l k
    · intro y0 y1 y2 y3 y4
      unfold foghornref20_unlike.l0
      repeat' first
      | (with_reducible exact ih0 _ _ _ _ _)
      | (with_reducible exact foghornref20_rising.mono _ _)
      | (with_reducible exact LeO.refl _)
      | (with_reducible exact LeO.none _)
      | (with_reducible refine LeO.ite ?_ ?_)
      | (with_reducible refine LeO.bind ?_ (fun _ => ?_))
      | exact ih0 _ _ _ _ _
      | exact foghornref20_rising.mono _ _
      | exact LeO.none _
      | refine LeO.ite ?_ ?_
      | refine LeO.bind ?_ (fun _ => ?_)
theorem foghornref20_unlike.mono : ∀ a0 a1 a2 k, LeO (foghornref20_unlike.f k a0 a1 a2) (foghornref20_unlike.f (k + 1) a0 a1 a2) := by
  intro a0 a1 a2 k
  have ih0 := foghornref20_unlike.mono_l k
  unfold foghornref20_unlike.f
  repeat' first
      | (with_reducible exact ih0 _ _ _ _ _)
      | (with_reducible exact foghornref20_rising.mono _ _)
      | (with_reducible exact LeO.refl _)
      | (with_reducible exact LeO.none _)
      | (with_reducible refine LeO.ite ?_ ?_)
      | (with_reducible refine LeO.bind ?_ (fun _ => ?_))
      | exact ih0 _ _ _ _ _
      | exact foghornref20_rising.mono _ _
      | exact LeO.none _
      | refine LeO.ite ?_ ?_
      | refine LeO.bind ?_ (fun _ => ?_)
def foghornref20_unlike.T5 : Bool × List (List Nat × List Nat) := (true, [([], []), ([], []), ([], []), ([], []), ([2, 3], [2, 3]), ([], []), ([], []), ([5, 6], [5, 6]), ([4, 7], [4, 7]), ([8], [8]), ([9], [9]), ([9], [9]), ([10, 11, 9], [9, 10, 11]), ([12, 9], [9, 12]), ([13, 9], [9, 13]), ([9, 14], [9, 14]), ([0, 1, 0, 1, 2, 3, 4, 5, 6, 7, 8, 9, 10, 11, 12, 13, 14, 15], [0, 1]), ([16, 15, 9, 0, 1, 2, 3, 4, 5, 6, 7, 8, 9, 10, 11, 12, 13, 14, 15], [15, 16])])
def foghornref20_unlike.B5 : List Nat := [0, 0, 0, 0, 12, 0, 0, 96, 252, 508, 1020, 1020, 4092, 8188, 16380, 32764, 65535, 131071]
theorem foghornref20_unlike.tab5 : rtab .any (opsOf Try.f96 5) = foghornref20_unlike.T5 := by kernel_rfl
theorem foghornref20_unlike.bits5 : waitsOk foghornref20_unlike.T5.2 foghornref20_unlike.B5 = true := by kernel_rfl

/-! ### foghornref20_Within: function 58 -/
def foghornref20_Within.j0 : Nat → ByteArray → ByteArray → Int → List Int → List Bool → Bool → Option (Bool × Int)
  | 0, _, _, _, _, _, _ => none
  | k + 1, x0, x1, x2, x3, x10, x29 => if x29 = true then (some (false, 1)) else ((foghornref19_Whole.f k x1 x2).bind fun bt807 => (if bt807.2 = 0 then (if bt807.1 = true then ((foghornref20_unlike.f k x0 x1 x10).bind fun t809 => (some (decide ((wrap64 ((wrap64 (2 * (t809.length : Int))) + (x3.length : Int))) ≤ x2), 0))) else (some (false, 1))) else (some (false, 1))))
def foghornref20_Within.f (k : Nat) (a0 : ByteArray) (a1 : ByteArray) (a2 : Int) (l3 : List Int) : Option (Bool × Int) := (foghornref20_Wrong.f k a0 a2 l3).bind fun bt803 => (if bt803.2 = 0 then (foghornref20_Within.j0 k a0 a1 a2 l3 bt803.1 ((a1.size : Int) != (a0.size : Int))) else (foghornref20_Within.j0 k a0 a1 a2 l3 bt803.1 true))
theorem foghornref20_Within.mono_l : ∀ k, (∀ y0 y1 y2 y3 y4 y5, LeO (foghornref20_Within.j0 k y0 y1 y2 y3 y4 y5) (foghornref20_Within.j0 (k + 1) y0 y1 y2 y3 y4 y5))
  | 0 => fun _ _ _ _ _ _ r h => by simp [foghornref20_Within.j0] at h
  | k + 1 => by
    have ih0 := foghornref20_Within.mono_l k
    · intro y0 y1 y2 y3 y4 y5
      unfold foghornref20_Within.j0
      repeat' first
      | (with_reducible exact ih0 _ _ _ _ _ _)
      | (with_reducible exact foghornref19_Whole.mono _ _ _)
      | (with_reducible exact foghornref20_Wrong.mono _ _ _ _)
      | (with_reducible exact foghornref20_unlike.mono _ _ _ _)
      | (with_reducible exact LeO.refl _)
      | (with_reducible exact LeO.none _)
      | (with_reducible refine LeO.ite ?_ ?_)
      | (with_reducible refine LeO.bind ?_ (fun _ => ?_))
      | exact ih0 _ _ _ _ _ _
      | exact foghornref19_Whole.mono _ _ _
      | exact foghornref20_Wrong.mono _ _ _ _
      | exact foghornref20_unlike.mono _ _ _ _
      | exact LeO.none _
      | refine LeO.ite ?_ ?_
      | refine LeO.bind ?_ (fun _ => ?_)
theorem foghornref20_Within.mono : ∀ a0 a1 a2 a3 k, LeO (foghornref20_Within.f k a0 a1 a2 a3) (foghornref20_Within.f (k + 1) a0 a1 a2 a3) := by
  intro a0 a1 a2 a3 k
  have ih0 := foghornref20_Within.mono_l k
  unfold foghornref20_Within.f
  repeat' first
      | (with_reducible exact ih0 _ _ _ _ _ _)
      | (with_reducible exact foghornref19_Whole.mono _ _ _)
      | (with_reducible exact foghornref20_Wrong.mono _ _ _ _)
      | (with_reducible exact foghornref20_unlike.mono _ _ _ _)
      | (with_reducible exact LeO.refl _)
      | (with_reducible exact LeO.none _)
      | (with_reducible refine LeO.ite ?_ ?_)
      | (with_reducible refine LeO.bind ?_ (fun _ => ?_))
      | exact ih0 _ _ _ _ _ _
      | exact foghornref19_Whole.mono _ _ _
      | exact foghornref20_Wrong.mono _ _ _ _
      | exact foghornref20_unlike.mono _ _ _ _
      | exact LeO.none _
      | refine LeO.ite ?_ ?_
      | refine LeO.bind ?_ (fun _ => ?_)

end Go.Proofs.Ytncoakokdajibaa.Q
