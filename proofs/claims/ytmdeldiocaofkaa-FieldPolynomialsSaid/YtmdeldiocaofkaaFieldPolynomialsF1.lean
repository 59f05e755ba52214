-- Printed by myprint.py (ours) over the kit's printer, out of the translation.
import Derived.Test.YtmdeldiocaofkaaFieldPolynomialsK0
import Derived.Test.YtmdeldiocaofkaaFieldPolynomialsF0
namespace Go.Proofs.Ytmdeldiocaofkaa.Q
open Go.RowKit Go.Proofs.YtmdeldiocaofkaaW.PrintWords Go.Proofs.YtmdeldiocaofkaaW.PrintLast Go.Proofs.YtmdeldiocaofkaaW.PrintMore
attribute [local go_sem] ArrW.ptrOf_slice max2_int min2_int max_two min_two max_three min_three max_four min_four   -- for this text's walks alone
set_option linter.unusedVariables false
set_option linter.unusedSimpArgs false

/-! ### foghornref18_divide: function 98 -/
mutual
def foghornref18_divide.l0 : Nat → List Int → List Int → List Int → Option (List Int × List Int)
  | 0, _, _, _ => none
  | k + 1, x1, x6, x7 => if (x6.length : Int) ≥ (x1.length : Int) then (if 0 ≤ (wrap64 ((x6.length : Int) - 1)) then (if (wrap64 ((x6.length : Int) - 1)) < (x6.length : Int) then (if 0 ≤ (wrap64 ((x1.length : Int) - 1)) then (if (wrap64 ((x1.length : Int) - 1)) < (x1.length : Int) then ((foghornref18_Over.f k (rd x6 (wrap64 ((x6.length : Int) - 1))) (rd x1 (wrap64 ((x1.length : Int) - 1)))).bind fun bt780 => (if 0 ≤ (wrap64 ((x6.length : Int) - (x1.length : Int))) then (if (wrap64 ((x6.length : Int) - (x1.length : Int))) < (x7.length : Int) then (foghornref18_divide.l1 k x1 x6 (x7.set ((wrap64 ((x6.length : Int) - (x1.length : Int))) : Int).toNat bt780.1) (wrap64 ((x6.length : Int) - (x1.length : Int))) bt780.1 0) else (none)) else (none))) else (none)) else (none)) else (none)) else (none)) else ((foghornref18_Trim.f k x7).bind fun t775 => (some (t775, x6)))
def foghornref18_divide.l1 : Nat → List Int → List Int → List Int → Int → Int → Int → Option (List Int × List Int)
  | 0, _, _, _, _, _, _ => none
  | k + 1, x1, x6, x7, x8, x9, x11 => if x11 < (x1.length : Int) then (if 0 ≤ (wrap64 (x8 + x11)) then (if (wrap64 (x8 + x11)) < (x6.length : Int) then (if 0 ≤ x11 then ((foghornref18_Times.f k x9 (rd x1 x11)).bind fun t785 => (foghornref18_divide.l1 k x1 (x6.set ((wrap64 (x8 + x11)) : Int).toNat (Go.bits .xor .u8 (rd x6 (wrap64 (x8 + x11))) t785)) x7 x8 x9 (wrap64 (x11 + 1)))) else (none)) else (none)) else (none)) else ((foghornref18_Trim.f k x6).bind fun t787 => (foghornref18_divide.l0 k x1 t787 x7))
end
def foghornref18_divide.f (k : Nat) (l0 : List Int) (l1 : List Int) : Option (List Int × List Int) := (foghornref18_Trim.f k l0).bind fun t769 => (if (t769.length : Int) < (l1.length : Int) then (some (([] : List Int), t769)) else (if 0 ≤ (wrap64 ((wrap64 ((t769.length : Int) - (l1.length : Int))) + 1)) then (if (wrap64 ((wrap64 ((t769.length : Int) - (l1.length : Int))) + 1) : Int).toNat ≤ 281474976710656 then (foghornref18_divide.l0 k l1 t769 (List.replicate (wrap64 ((wrap64 ((t769.length : Int) - (l1.length : Int))) + 1) : Int).toNat 0)) else (none)) else (none)))
theorem foghornref18_divide.mono_l : ∀ k, (∀ y0 y1 y2, LeO (foghornref18_divide.l0 k y0 y1 y2) (foghornref18_divide.l0 (k + 1) y0 y1 y2)) ∧ (∀ y0 y1 y2 y3 y4 y5, LeO (foghornref18_divide.l1 k y0 y1 y2 y3 y4 y5) (foghornref18_divide.l1 (k + 1) y0 y1 y2 y3 y4 y5))
  | 0 => ⟨fun _ _ _ r h => by simp [foghornref18_divide.l0] at h, fun _ _ _ _ _ _ r h => by simp [foghornref18_divide.l1] at h⟩
  | k + 1 => by
    obtain ⟨ih0, ih1⟩ := foghornref18_divide.mono_l k
    refine ⟨?_, ?_⟩
    · intro y0 y1 y2
      unfold foghornref18_divide.l0
      repeat' first
      | (with_reducible exact ih0 _ _ _)
      | (with_reducible exact ih1 _ _ _ _ _ _)
      | (with_reducible exact foghornref18_Over.mono _ _ _)
      | (with_reducible exact foghornref18_Times.mono _ _ _)
      | (with_reducible exact foghornref18_Trim.mono _ _)
      | (with_reducible exact LeO.refl _)
      | (with_reducible exact LeO.none _)
      | (with_reducible refine LeO.ite ?_ ?_)
      | (with_reducible refine LeO.bind ?_ (fun _ => ?_))
      | exact ih0 _ _ _
      | exact ih1 _ _ _ _ _ _
      | exact foghornref18_Over.mono _ _ _
      | exact foghornref18_Times.mono _ _ _
      | exact foghornref18_Trim.mono _ _
      | exact LeO.none _
      | refine LeO.ite ?_ ?_
      | refine LeO.bind ?_ (fun _ => ?_)
    · intro y0 y1 y2 y3 y4 y5
      unfold foghornref18_divide.l1
      repeat' first
      | (with_reducible exact ih0 _ _ _)
      | (with_reducible exact ih1 _ _ _ _ _ _)
      | (with_reducible exact foghornref18_Over.mono _ _ _)
      | (with_reducible exact foghornref18_Times.mono _ _ _)
      | (with_reducible exact foghornref18_Trim.mono _ _)
      | (with_reducible exact LeO.refl _)
      | (with_reducible exact LeO.none _)
      | (with_reducible refine LeO.ite ?_ ?_)
      | (with_reducible refine LeO.bind ?_ (fun _ => ?_))
      | exact ih0 _ _ _
      | exact ih1 _ _ _ _ _ _
      | exact foghornref18_Over.mono _ _ _
      | exact foghornref18_Times.mono _ _ _
      | exact foghornref18_Trim.mono _ _
      | exact LeO.none _
      | refine LeO.ite ?_ ?_
      | refine LeO.bind ?_ (fun _ => ?_)
theorem foghornref18_divide.mono : ∀ a0 a1 k, LeO (foghornref18_divide.f k a0 a1) (foghornref18_divide.f (k + 1) a0 a1) := by
  intro a0 a1 k
  obtain ⟨ih0, ih1⟩ := foghornref18_divide.mono_l k
  unfold foghornref18_divide.f
  repeat' first
      | (with_reducible exact ih0 _ _ _)
      | (with_reducible exact ih1 _ _ _ _ _ _)
      | (with_reducible exact foghornref18_Over.mono _ _ _)
      | (with_reducible exact foghornref18_Times.mono _ _ _)
      | (with_reducible exact foghornref18_Trim.mono _ _)
      | (with_reducible exact LeO.refl _)
      | (with_reducible exact LeO.none _)
      | (with_reducible refine LeO.ite ?_ ?_)
      | (with_reducible refine LeO.bind ?_ (fun _ => ?_))
      | exact ih0 _ _ _
      | exact ih1 _ _ _ _ _ _
      | exact foghornref18_Over.mono _ _ _
      | exact foghornref18_Times.mono _ _ _
      | exact foghornref18_Trim.mono _ _
      | exact LeO.none _
      | refine LeO.ite ?_ ?_
      | refine LeO.bind ?_ (fun _ => ?_)
def foghornref18_divide.T7 : Bool × List (List Nat × List Nat) := (true, [([], []), ([], []), ([1], [1]), ([2], [2]), ([0, 3], [0, 3]), ([4], [4]), ([], []), ([], []), ([7], [7]), ([8], [8]), ([6, 9], [6, 9]), ([10], [10]), ([5, 11], [5, 11]), ([12], [12]), ([13], [13]), ([13], [13]), ([14, 12, 0, 1, 2, 3, 4, 5, 6, 7, 8, 9, 10, 11, 12, 13, 14], [14]), ([15, 16, 0, 1, 2, 3, 4, 5, 6, 7, 8, 9, 10, 11, 12, 13, 14, 15, 16], [15])])
def foghornref18_divide.B7 : List Nat := [0, 0, 2, 6, 15, 31, 0, 0, 128, 384, 960, 1984, 4095, 8191, 16383, 16383, 32767, 131071]
theorem foghornref18_divide.tab7 : rtab .any (opsOf Try.f98 7) = foghornref18_divide.T7 := by kernel_rfl
theorem foghornref18_divide.bits7 : waitsOk foghornref18_divide.T7.2 foghornref18_divide.B7 = true := by kernel_rfl
def foghornref18_divide.T12 : Bool × List (List Nat × List Nat) := (true, [([], []), ([], []), ([], []), ([1, 2], [1, 2]), ([], []), ([], []), ([], []), ([5, 6], [5, 6]), ([4, 7], [4, 7]), ([8], [8]), ([], []), ([], []), ([], []), ([11, 12], [11, 12]), ([13], [13]), ([10, 14], [10, 14]), ([9, 15], [9, 15]), ([0, 3, 0, 1, 2, 3, 4, 5, 6, 7, 8, 9, 10, 11, 12, 13, 14, 15, 16], [0, 3]), ([17, 16, 15, 0, 1, 2, 3, 4, 5, 6, 7, 8, 9, 10, 11, 12, 13, 14, 15, 16], [16, 17])])
def foghornref18_divide.B12 : List Nat := [0, 0, 0, 6, 0, 0, 0, 96, 240, 496, 0, 0, 0, 6144, 14336, 31744, 65520, 131071, 262143]
theorem foghornref18_divide.tab12 : rtab .any (opsOf Try.f98 12) = foghornref18_divide.T12 := by kernel_rfl
theorem foghornref18_divide.bits12 : waitsOk foghornref18_divide.T12.2 foghornref18_divide.B12 = true := by kernel_rfl

/-! ### foghornref18_Divide: function 83 -/
def foghornref18_Divide.f (k : Nat) (l0 : List Int) (l1 : List Int) : Option (List Int × List Int × Int) := (foghornref18_may.f l0 l1).bind fun t790 => (if t790 = true then ((foghornref18_Trim.f k l1).bind fun t791 => (if (t791.length : Int) = 0 then (some (([] : List Int), ([] : List Int), 6)) else ((foghornref18_divide.f k l0 t791).bind fun bt794 => (some (bt794.1, bt794.2, 0))))) else (some (([] : List Int), ([] : List Int), 1)))
theorem foghornref18_Divide.mono : ∀ a0 a1 k, LeO (foghornref18_Divide.f k a0 a1) (foghornref18_Divide.f (k + 1) a0 a1) := by
  intro a0 a1 k
  unfold foghornref18_Divide.f
  repeat' first
      | (with_reducible exact foghornref18_Trim.mono _ _)
      | (with_reducible exact foghornref18_divide.mono _ _ _)
      | (with_reducible exact LeO.refl _)
      | (with_reducible exact LeO.none _)
      | (with_reducible refine LeO.ite ?_ ?_)
      | (with_reducible refine LeO.bind ?_ (fun _ => ?_))
      | exact foghornref18_Trim.mono _ _
      | exact foghornref18_divide.mono _ _ _
      | exact LeO.none _
      | refine LeO.ite ?_ ?_
      | refine LeO.bind ?_ (fun _ => ?_)

/-! ### foghornref18_Gcd: function 84 -/
mutual
def foghornref18_Gcd.l0 : Nat → List Int → List Int → Option (List Int × Int)
  | 0, _, _ => none
  | k + 1, x6, x7 => if (x7.length : Int) > 0 then ((foghornref18_divide.f k x6 x7).bind fun bt807 => (foghornref18_Gcd.l0 k x7 bt807.2)) else (if (x6.length : Int) > 0 then (if 0 ≤ (wrap64 ((x6.length : Int) - 1)) then (if (wrap64 ((x6.length : Int) - 1)) < (x6.length : Int) then (foghornref18_Gcd.l1 k x6 (rd x6 (wrap64 ((x6.length : Int) - 1))) 0) else (none)) else (none)) else (some (x6, 0)))
def foghornref18_Gcd.l1 : Nat → List Int → Int → Int → Option (List Int × Int)
  | 0, _, _, _ => none
  | k + 1, x6, x10, x11 => if x11 < (x6.length : Int) then (if 0 ≤ x11 then ((foghornref18_Over.f k (rd x6 x11) x10).bind fun bt815 => (foghornref18_Gcd.l1 k (x6.set (x11 : Int).toNat bt815.1) x10 (wrap64 (x11 + 1)))) else (none)) else (some (x6, 0))
end
def foghornref18_Gcd.f (k : Nat) (l0 : List Int) (l1 : List Int) : Option (List Int × Int) := (foghornref18_may.f l0 l1).bind fun t800 => (if t800 = true then ((foghornref18_Trim.f k l0).bind fun t801 => ((foghornref18_Trim.f k l1).bind fun t804 => (foghornref18_Gcd.l0 k t801 t804))) else (some (([] : List Int), 1)))
theorem foghornref18_Gcd.mono_l : ∀ k, (∀ y0 y1, LeO (foghornref18_Gcd.l0 k y0 y1) (foghornref18_Gcd.l0 (k + 1) y0 y1)) ∧ (∀ y0 y1 y2, LeO (foghornref18_Gcd.l1 k y0 y1 y2) (foghornref18_Gcd.l1 (k + 1) y0 y1 y2))
  | 0 => ⟨fun _ _ r h => by simp [foghornref18_Gcd.l0] at h, fun _ _ _ r h => by simp [foghornref18_Gcd.l1] at h⟩
  | k + 1 => by
    obtain ⟨ih0, ih1⟩ := foghornref18_Gcd.mono_l k
    refine ⟨?_, ?_⟩
    · intro y0 y1
      unfold foghornref18_Gcd.l0
      repeat' first
      | (with_reducible exact ih0 _ _)
      | (with_reducible exact ih1 _ _ _)
      | (with_reducible exact foghornref18_Over.mono _ _ _)
      | (with_reducible exact foghornref18_Trim.mono _ _)
      | (with_reducible exact foghornref18_divide.mono _ _ _)
      | (with_reducible exact LeO.refl _)
      | (with_reducible exact LeO.none _)
      | (with_reducible refine LeO.ite ?_ ?_)
      | (with_reducible refine LeO.bind ?_ (fun _ => ?_))
      | exact ih0 _ _
      | exact ih1 _ _ _
      | exact foghornref18_Over.mono _ _ _
      | exact foghornref18_Trim.mono _ _
      | exact foghornref18_divide.mono _ _ _
      | exact LeO.none _
      | refine LeO.ite ?_ ?_
      | refine LeO.bind ?_ (fun _ => ?_)
    · intro y0 y1 y2
      unfold foghornref18_Gcd.l1
      repeat' first
      | (with_reducible exact ih0 _ _)
      | (with_reducible exact ih1 _ _ _)
      | (with_reducible exact foghornref18_Over.mono _ _ _)
      | (with_reducible exact foghornref18_Trim.mono _ _)
      | (with_reducible exact foghornref18_divide.mono _ _ _)
      | (with_reducible exact LeO.refl _)
      | (with_reducible exact LeO.none _)
      | (with_reducible refine LeO.ite ?_ ?_)
      | (with_reducible refine LeO.bind ?_ (fun _ => ?_))
      | exact ih0 _ _
      | exact ih1 _ _ _
      | exact foghornref18_Over.mono _ _ _
      | exact foghornref18_Trim.mono _ _
      | exact foghornref18_divide.mono _ _ _
      | exact LeO.none _
      | refine LeO.ite ?_ ?_
      | refine LeO.bind ?_ (fun _ => ?_)
theorem foghornref18_Gcd.mono : ∀ a0 a1 k, LeO (foghornref18_Gcd.f k a0 a1) (foghornref18_Gcd.f (k + 1) a0 a1) := by
  intro a0 a1 k
  obtain ⟨ih0, ih1⟩ := foghornref18_Gcd.mono_l k
  unfold foghornref18_Gcd.f
  repeat' first
      | (with_reducible exact ih0 _ _)
      | (with_reducible exact ih1 _ _ _)
      | (with_reducible exact foghornref18_Over.mono _ _ _)
      | (with_reducible exact foghornref18_Trim.mono _ _)
      | (with_reducible exact foghornref18_divide.mono _ _ _)
      | (with_reducible exact LeO.refl _)
      | (with_reducible exact LeO.none _)
      | (with_reducible refine LeO.ite ?_ ?_)
      | (with_reducible refine LeO.bind ?_ (fun _ => ?_))
      | exact ih0 _ _
      | exact ih1 _ _ _
      | exact foghornref18_Over.mono _ _ _
      | exact foghornref18_Trim.mono _ _
      | exact foghornref18_divide.mono _ _ _
      | exact LeO.none _
      | refine LeO.ite ?_ ?_
      | refine LeO.bind ?_ (fun _ => ?_)

/-! ### foghornref18_Slope: function 85 -/
def foghornref18_Slope.l0 : Nat → List Int → List Int → Int → Option (List Int × Int)
  | 0, _, _, _ => none
  | k + 1, x0, x4, x5 => if (wrap64 (x5 + 1)) < (x0.length : Int) then (if (Int.tmod x5 2) = 0 then (if 0 ≤ (wrap64 (x5 + 1)) then (if x4.length < 140737488355328 then (foghornref18_Slope.l0 k x0 (x4 ++ [rd x0 (wrap64 (x5 + 1))]) (wrap64 (x5 + 1))) else (none)) else (none)) else (if x4.length < 140737488355328 then (foghornref18_Slope.l0 k x0 (x4 ++ [0]) (wrap64 (x5 + 1))) else (none))) else ((foghornref18_Trim.f k x4).bind fun t826 => (some (t826, 0)))
def foghornref18_Slope.f (k : Nat) (l0 : List Int) : Option (List Int × Int) := (foghornref18_may.f l0 ([] : List Int)).bind fun t818 => (if t818 = true then (foghornref18_Slope.l0 k l0 ([] : List Int) 0) else (some (([] : List Int), 1)))
theorem foghornref18_Slope.mono_l : ∀ k, (∀ y0 y1 y2, LeO (foghornref18_Slope.l0 k y0 y1 y2) (foghornref18_Slope.l0 (k + 1) y0 y1 y2))
  | 0 => fun _ _ _ r h => by simp [foghornref18_Slope.l0] at h
  | k + 1 => by
    have ih0 := foghornref18_Slope.mono_l k
    · intro y0 y1 y2
      unfold foghornref18_Slope.l0
      repeat' first
      | (with_reducible exact ih0 _ _ _)
      | (with_reducible exact foghornref18_Trim.mono _ _)
      | (with_reducible exact LeO.refl _)
      | (with_reducible exact LeO.none _)
      | (with_reducible refine LeO.ite ?_ ?_)
      | (with_reducible refine LeO.bind ?_ (fun _ => ?_))
      | exact ih0 _ _ _
      | exact foghornref18_Trim.mono _ _
      | exact LeO.none _
      | refine LeO.ite ?_ ?_
      | refine LeO.bind ?_ (fun _ => ?_)
theorem foghornref18_Slope.mono : ∀ a0 k, LeO (foghornref18_Slope.f k a0) (foghornref18_Slope.f (k + 1) a0) := by
  intro a0 k
  have ih0 := foghornref18_Slope.mono_l k
  unfold foghornref18_Slope.f
  repeat' first
      | (with_reducible exact ih0 _ _ _)
      | (with_reducible exact foghornref18_Trim.mono _ _)
      | (with_reducible exact LeO.refl _)
      | (with_reducible exact LeO.none _)
      | (with_reducible refine LeO.ite ?_ ?_)
      | (with_reducible refine LeO.bind ?_ (fun _ => ?_))
      | exact ih0 _ _ _
      | exact foghornref18_Trim.mono _ _
      | exact LeO.none _
      | refine LeO.ite ?_ ?_
      | refine LeO.bind ?_ (fun _ => ?_)

/-! ### foghornref18_Roots: function 86 -/
def foghornref18_Roots.l0 : Nat → List Int → List Int → Int → Option (List Int × Int)
  | 0, _, _, _ => none
  | k + 1, x0, x4, x5 => if x5 < 256 then ((foghornref18_at.f k x0 ((x5) % 256)).bind fun t833 => (if t833 = 0 then (if x4.length < 140737488355328 then (foghornref18_Roots.l0 k x0 (x4 ++ [(x5) % 256]) (wrap64 (x5 + 1))) else (none)) else (foghornref18_Roots.l0 k x0 x4 (wrap64 (x5 + 1))))) else (some (x4, 0))
def foghornref18_Roots.f (k : Nat) (l0 : List Int) : Option (List Int × Int) := (foghornref18_may.f l0 ([] : List Int)).bind fun t829 => (if t829 = true then ((foghornref18_Trim.f k l0).bind fun t830 => (if (t830.length : Int) = 0 then (some (([] : List Int), 6)) else (foghornref18_Roots.l0 k l0 ([] : List Int) 0))) else (some (([] : List Int), 1)))
theorem foghornref18_Roots.mono_l : ∀ k, (∀ y0 y1 y2, LeO (foghornref18_Roots.l0 k y0 y1 y2) (foghornref18_Roots.l0 (k + 1) y0 y1 y2))
  | 0 => fun _ _ _ r h => by simp [foghornref18_Roots.l0] at h
  | k + 1 => by
    have ih0 := foghornref18_Roots.mono_l k
    · intro y0 y1 y2
      unfold foghornref18_Roots.l0
      repeat' first
      | (with_reducible exact ih0 _ _ _)
      | (with_reducible exact foghornref18_Trim.mono _ _)
      | (with_reducible exact foghornref18_at.mono _ _ _)
      | (with_reducible exact LeO.refl _)
      | (with_reducible exact LeO.none _)
      | (with_reducible refine LeO.ite ?_ ?_)
      | (with_reducible refine LeO.bind ?_ (fun _ => ?_))
      | exact ih0 _ _ _
      | exact foghornref18_Trim.mono _ _
      | exact foghornref18_at.mono _ _ _
      | exact LeO.none _
      | refine LeO.ite ?_ ?_
      | refine LeO.bind ?_ (fun _ => ?_)
theorem foghornref18_Roots.mono : ∀ a0 k, LeO (foghornref18_Roots.f k a0) (foghornref18_Roots.f (k + 1) a0) := by
  intro a0 k
  have ih0 := foghornref18_Roots.mono_l k
  unfold foghornref18_Roots.f
  repeat' first
      | (with_reducible exact ih0 _ _ _)
      | (with_reducible exact foghornref18_Trim.mono _ _)
      | (with_reducible exact foghornref18_at.mono _ _ _)
      | (with_reducible exact LeO.refl _)
      | (with_reducible exact LeO.none _)
      | (with_reducible refine LeO.ite ?_ ?_)
      | (with_reducible refine LeO.bind ?_ (fun _ => ?_))
      | exact ih0 _ _ _
      | exact foghornref18_Trim.mono _ _
      | exact foghornref18_at.mono _ _ _
      | exact LeO.none _
      | refine LeO.ite ?_ ?_
      | refine LeO.bind ?_ (fun _ => ?_)

/-! ### foghornref18_At: function 87 -/
def foghornref18_At.f (k : Nat) (l0 : List Int) (a1 : Int) : Option (Int × Int) := (foghornref18_may.f l0 ([] : List Int)).bind fun t837 => (if t837 = true then ((foghornref18_at.f k l0 a1).bind fun t838 => (some (t838, 0))) else (some (0, 1)))
theorem foghornref18_At.mono : ∀ a0 a1 k, LeO (foghornref18_At.f k a0 a1) (foghornref18_At.f (k + 1) a0 a1) := by
  intro a0 a1 k
  unfold foghornref18_At.f
  repeat' first
      | (with_reducible exact foghornref18_at.mono _ _ _)
      | (with_reducible exact LeO.refl _)
      | (with_reducible exact LeO.none _)
      | (with_reducible refine LeO.ite ?_ ?_)
      | (with_reducible refine LeO.bind ?_ (fun _ => ?_))
      | exact foghornref18_at.mono _ _ _
      | exact LeO.none _
      | refine LeO.ite ?_ ?_
      | refine LeO.bind ?_ (fun _ => ?_)

/-! ### foghornref18_Of: function 88 -/
def foghornref18_Of.l0 : Nat → List Int → List Int → Int → Option (List Int × Int)
  | 0, _, _, _ => none
  | k + 1, x0, x4, x5 => if x5 < (x0.length : Int) then (if 0 ≤ x5 then ((foghornref18_product.f k x4 (([rd x0 x5, 1] : List Int))).bind fun t846 => (foghornref18_Of.l0 k x0 t846 (wrap64 (x5 + 1)))) else (none)) else (some (x4, 0))
def foghornref18_Of.f (k : Nat) (l0 : List Int) : Option (List Int × Int) := if (l0.length : Int) ≥ 512 then (some (([] : List Int), 1)) else (foghornref18_Of.l0 k l0 (([1] : List Int)) 0)
theorem foghornref18_Of.mono_l : ∀ k, (∀ y0 y1 y2, LeO (foghornref18_Of.l0 k y0 y1 y2) (foghornref18_Of.l0 (k + 1) y0 y1 y2))
  | 0 => fun _ _ _ r h => by simp [foghornref18_Of.l0] at h
  | k + 1 => by
    have ih0 := foghornref18_Of.mono_l k
    · intro y0 y1 y2
      unfold foghornref18_Of.l0
      repeat' first
      | (with_reducible exact ih0 _ _ _)
      | (with_reducible exact foghornref18_product.mono _ _ _)
      | (with_reducible exact LeO.refl _)
      | (with_reducible exact LeO.none _)
      | (with_reducible refine LeO.ite ?_ ?_)
      | (with_reducible refine LeO.bind ?_ (fun _ => ?_))
      | exact ih0 _ _ _
      | exact foghornref18_product.mono _ _ _
      | exact LeO.none _
      | refine LeO.ite ?_ ?_
      | refine LeO.bind ?_ (fun _ => ?_)
theorem foghornref18_Of.mono : ∀ a0 k, LeO (foghornref18_Of.f k a0) (foghornref18_Of.f (k + 1) a0) := by
  intro a0 k
  have ih0 := foghornref18_Of.mono_l k
  unfold foghornref18_Of.f
  repeat' first
      | (with_reducible exact ih0 _ _ _)
      | (with_reducible exact foghornref18_product.mono _ _ _)
      | (with_reducible exact LeO.refl _)
      | (with_reducible exact LeO.none _)
      | (with_reducible refine LeO.ite ?_ ?_)
      | (with_reducible refine LeO.bind ?_ (fun _ => ?_))
      | exact ih0 _ _ _
      | exact foghornref18_product.mono _ _ _
      | exact LeO.none _
      | refine LeO.ite ?_ ?_
      | refine LeO.bind ?_ (fun _ => ?_)

/-! ### foghornlaw18_polynomials: function 61 -/
mutual
def foghornlaw18_polynomials.j0 : Nat → List Int → List Int → List Int → List Int → Int → Bool → Option (Bool)
  | 0, _, _, _, _, _, _ => none
  | k + 1, x0, x1, x2, x3, x4, x52 => if x52 = true then (some false) else ((field_Product.f k x0 x1).bind fun bt859 => ((foghornref18_Product.f k x2 x3).bind fun bt863 => (if bt859.2 = bt863.2 then ((foghornref18_Same.f k bt859.1 bt863.1).bind fun t867 => (if t867 = true then ((foghornlaw18_spoilt.f k bt859.1 x1 x3).bind fun t868 => (foghornlaw18_polynomials.j1 k x0 x1 x2 x3 x4 (!t868))) else (foghornlaw18_polynomials.j1 k x0 x1 x2 x3 x4 true))) else (foghornlaw18_polynomials.j1 k x0 x1 x2 x3 x4 true))))
def foghornlaw18_polynomials.j1 : Nat → List Int → List Int → List Int → List Int → Int → Bool → Option (Bool)
  | 0, _, _, _, _, _, _ => none
  | k + 1, x0, x1, x2, x3, x4, x80 => if x80 = true then (some false) else ((field_Divide.f k x0 x1).bind fun bt869 => ((foghornref18_Divide.f k x2 x3).bind fun bt876 => (if bt869.2.2 = bt876.2.2 then ((foghornref18_Same.f k bt869.1 bt876.1).bind fun t883 => (if t883 = true then ((foghornref18_Same.f k bt869.2.1 bt876.2.1).bind fun t884 => (if t884 = true then ((foghornlaw18_spoilt.f k bt869.2.1 x0 x2).bind fun t885 => (if t885 = true then ((foghornref18_Same.f k bt869.1 bt876.1).bind fun t886 => (foghornlaw18_polynomials.j2 k x0 x1 x2 x3 x4 (!t886))) else (foghornlaw18_polynomials.j2 k x0 x1 x2 x3 x4 true))) else (foghornlaw18_polynomials.j2 k x0 x1 x2 x3 x4 true))) else (foghornlaw18_polynomials.j2 k x0 x1 x2 x3 x4 true))) else (foghornlaw18_polynomials.j2 k x0 x1 x2 x3 x4 true))))
def foghornlaw18_polynomials.j2 : Nat → List Int → List Int → List Int → List Int → Int → Bool → Option (Bool)
  | 0, _, _, _, _, _, _ => none
  | k + 1, x0, x1, x2, x3, x4, x122 => if x122 = true then (some false) else ((field_Gcd.f k x0 x1).bind fun bt887 => ((foghornref18_Gcd.f k x2 x3).bind fun bt891 => (if bt887.2 = bt891.2 then ((foghornref18_Same.f k bt887.1 bt891.1).bind fun t895 => (if t895 = true then ((foghornlaw18_spoilt.f k bt887.1 x0 x2).bind fun t896 => (foghornlaw18_polynomials.j3 k x0 x1 x2 x3 x4 (!t896))) else (foghornlaw18_polynomials.j3 k x0 x1 x2 x3 x4 true))) else (foghornlaw18_polynomials.j3 k x0 x1 x2 x3 x4 true))))
def foghornlaw18_polynomials.j3 : Nat → List Int → List Int → List Int → List Int → Int → Bool → Option (Bool)
  | 0, _, _, _, _, _, _ => none
  | k + 1, x0, x1, x2, x3, x4, x150 => if x150 = true then (some false) else ((field_Slope.f k x0).bind fun bt897 => ((foghornref18_Slope.f k x2).bind fun bt901 => (if bt897.2 = bt901.2 then ((foghornref18_Same.f k bt897.1 bt901.1).bind fun t905 => (if t905 = true then ((foghornlaw18_spoilt.f k bt897.1 x0 x2).bind fun t906 => (foghornlaw18_polynomials.j4 k x0 x1 x2 x3 x4 (!t906))) else (foghornlaw18_polynomials.j4 k x0 x1 x2 x3 x4 true))) else (foghornlaw18_polynomials.j4 k x0 x1 x2 x3 x4 true))))
def foghornlaw18_polynomials.j4 : Nat → List Int → List Int → List Int → List Int → Int → Bool → Option (Bool)
  | 0, _, _, _, _, _, _ => none
  | k + 1, x0, x1, x2, x3, x4, x176 => if x176 = true then (some false) else ((field_Roots.f k x0).bind fun bt907 => ((foghornref18_Roots.f k x2).bind fun bt911 => ((field_At.f x0 x4).bind fun bt915 => ((foghornref18_At.f k x2 x4).bind fun bt917 => ((field_Of.f k x1).bind fun bt919 => ((foghornref18_Of.f k x3).bind fun bt923 => (if bt907.2 = bt911.2 then ((foghornref18_Same.f k bt907.1 bt911.1).bind fun t927 => (if t927 = true then (if bt915.1 = bt917.1 then (if bt915.2 = bt917.2 then (if bt919.2 = bt923.2 then ((foghornref18_Same.f k bt919.1 bt923.1).bind fun t928 => (some t928)) else (some false)) else (some false)) else (some false)) else (some false))) else (some false))))))))
end
def foghornlaw18_polynomials.f (k : Nat) (l0 : List Int) (l1 : List Int) (l2 : List Int) (l3 : List Int) (a4 : Int) : Option (Bool) := (field_Sum.f k l0 l1).bind fun bt849 => ((foghornref18_Sum.f k l2 l3).bind fun bt853 => (if bt849.2 = bt853.2 then ((foghornref18_Same.f k bt849.1 bt853.1).bind fun t857 => (if t857 = true then ((foghornlaw18_spoilt.f k bt849.1 l0 l2).bind fun t858 => (foghornlaw18_polynomials.j0 k l0 l1 l2 l3 a4 (!t858))) else (foghornlaw18_polynomials.j0 k l0 l1 l2 l3 a4 true))) else (foghornlaw18_polynomials.j0 k l0 l1 l2 l3 a4 true)))
theorem foghornlaw18_polynomials.mono_l : ∀ k, (∀ y0 y1 y2 y3 y4 y5, LeO (foghornlaw18_polynomials.j0 k y0 y1 y2 y3 y4 y5) (foghornlaw18_polynomials.j0 (k + 1) y0 y1 y2 y3 y4 y5)) ∧ (∀ y0 y1 y2 y3 y4 y5, LeO (foghornlaw18_polynomials.j1 k y0 y1 y2 y3 y4 y5) (foghornlaw18_polynomials.j1 (k + 1) y0 y1 y2 y3 y4 y5)) ∧ (∀ y0 y1 y2 y3 y4 y5, LeO (foghornlaw18_polynomials.j2 k y0 y1 y2 y3 y4 y5) (foghornlaw18_polynomials.j2 (k + 1) y0 y1 y2 y3 y4 y5)) ∧ (∀ y0 y1 y2 y3 y4 y5, LeO (foghornlaw18_polynomials.j3 k y0 y1 y2 y3 y4 y5) (foghornlaw18_polynomials.j3 (k + 1) y0 y1 y2 y3 y4 y5)) ∧ (∀ y0 y1 y2 y3 y4 y5, LeO (foghornlaw18_polynomials.j4 k y0 y1 y2 y3 y4 y5) (foghornlaw18_polynomials.j4 (k + 1) y0 y1 y2 y3 y4 y5))
  | 0 => ⟨fun _ _ _ _ _ _ r h => by simp [foghornlaw18_polynomials.j0] at h, fun _ _ _ _ _ _ r h => by simp [foghornlaw18_polynomials.j1] at h, fun _ _ _ _ _ _ r h => by simp [foghornlaw18_polynomials.j2] at h, fun _ _ _ _ _ _ r h => by simp [foghornlaw18_polynomials.j3] at h, fun _ _ _ _ _ _ r h => by simp [foghornlaw18_polynomials.j4] at h⟩
  | k + 1 => by
    obtain ⟨ih0, ih1, ih2, ih3, ih4⟩ := foghornlaw18_polynomials.mono_l k
    refine ⟨?_, ?_, ?_, ?_, ?_⟩
    · intro y0 y1 y2 y3 y4 y5
      unfold foghornlaw18_polynomials.j0
      repeat' first
      | (with_reducible exact ih0 _ _ _ _ _ _)
      | (with_reducible exact ih1 _ _ _ _ _ _)
      | (with_reducible exact ih2 _ _ _ _ _ _)
      | (with_reducible exact ih3 _ _ _ _ _ _)
      | (with_reducible exact ih4 _ _ _ _ _ _)
      | (with_reducible exact field_Divide.mono _ _ _)
      | (with_reducible exact field_Gcd.mono _ _ _)
      | (with_reducible exact field_Of.mono _ _)
      | (with_reducible exact field_Product.mono _ _ _)
      | (with_reducible exact field_Roots.mono _ _)
      | (with_reducible exact field_Slope.mono _ _)
      | (with_reducible exact field_Sum.mono _ _ _)
      | (with_reducible exact foghornlaw18_spoilt.mono _ _ _ _)
      | (with_reducible exact foghornref18_At.mono _ _ _)
      | (with_reducible exact foghornref18_Divide.mono _ _ _)
      | (with_reducible exact foghornref18_Gcd.mono _ _ _)
      | (with_reducible exact foghornref18_Of.mono _ _)
      | (with_reducible exact foghornref18_Product.mono _ _ _)
      | (with_reducible exact foghornref18_Roots.mono _ _)
      | (with_reducible exact foghornref18_Same.mono _ _ _)
      | (with_reducible exact foghornref18_Slope.mono _ _)
      | (with_reducible exact foghornref18_Sum.mono _ _ _)
      | (with_reducible exact LeO.refl _)
      | (with_reducible exact LeO.none _)
      | (with_reducible refine LeO.ite ?_ ?_)
      | (with_reducible refine LeO.bind ?_ (fun _ => ?_))
      | exact ih0 _ _ _ _ _ _
      | exact ih1 _ _ _ _ _ _
      | exact ih2 _ _ _ _ _ _
      | exact ih3 _ _ _ _ _ _
      | exact ih4 _ _ _ _ _ _
      | exact field_Divide.mono _ _ _
      | exact field_Gcd.mono _ _ _
      | exact field_Of.mono _ _
      | exact field_Product.mono _ _ _
      | exact field_Roots.mono _ _
      | exact field_Slope.mono _ _
      | exact field_Sum.mono _ _ _
      | exact foghornlaw18_spoilt.mono _ _ _ _
      | exact foghornref18_At.mono _ _ _
      | exact foghornref18_Divide.mono _ _ _
      | exact foghornref18_Gcd.mono _ _ _
      | exact foghornref18_Of.mono _ _
      | exact foghornref18_Product.mono _ _ _
      | exact foghornref18_Roots.mono _ _
      | exact foghornref18_Same.mono _ _ _
      | exact foghornref18_Slope.mono _ _
      | exact foghornref18_Sum.mono _ _ _
      | exact LeO.none _
      | refine LeO.ite ?_ ?_
      | refine LeO.bind ?_ (fun _ => ?_)
    · intro y0 y1 y2 y3 y4 y5
      unfold foghornlaw18_polynomials.j1
      repeat' first
      | (with_reducible exact ih0 _ _ _ _ _ _)
      | (with_reducible exact ih1 _ _ _ _ _ _)
      | (with_reducible exact ih2 _ _ _ _ _ _)
      | (with_reducible exact ih3 _ _ _ _ _ _)
      | (with_reducible exact ih4 _ _ _ _ _ _)
      | (with_reducible exact field_Divide.mono _ _ _)
      | (with_reducible exact field_Gcd.mono _ _ _)
      | (with_reducible exact field_Of.mono _ _)
      | (with_reducible exact field_Product.mono _ _ _)
      | (with_reducible exact field_Roots.mono _ _)
      | (with_reducible exact field_Slope.mono _ _)
      | (with_reducible exact field_Sum.mono _ _ _)
      | (with_reducible exact foghornlaw18_spoilt.mono _ _ _ _)
      | (with_reducible exact foghornref18_At.mono _ _ _)
      | (with_reducible exact foghornref18_Divide.mono _ _ _)
      | (with_reducible exact foghornref18_Gcd.mono _ _ _)
      | (with_reducible exact foghornref18_Of.mono _ _)
      | (with_reducible exact foghornref18_Product.mono _ _ _)
      | (with_reducible exact foghornref18_Roots.mono _ _)
      | (with_reducible exact foghornref18_Same.mono _ _ _)
      | (with_reducible exact foghornref18_Slope.mono _ _)
      | (with_reducible exact foghornref18_Sum.mono _ _ _)
      | (with_reducible exact LeO.refl _)
      | (with_reducible exact LeO.none _)
      | (with_reducible refine LeO.ite ?_ ?_)
      | (with_reducible refine LeO.bind ?_ (fun _ => ?_))
      | exact ih0 _ _ _ _ _ _
      | exact ih1 _ _ _ _ _ _
      | exact ih2 _ _ _ _ _ _
      | exact ih3 _ _ _ _ _ _
      | exact ih4 _ _ _ _ _ _
      | exact field_Divide.mono _ _ _
      | exact field_Gcd.mono _ _ _
      | exact field_Of.mono _ _
      | exact field_Product.mono _ _ _
      | exact field_Roots.mono _ _
      | exact field_Slope.mono _ _
      | exact field_Sum.mono _ _ _
      | exact foghornlaw18_spoilt.mono _ _ _ _
      | exact foghornref18_At.mono _ _ _
      | exact foghornref18_Divide.mono _ _ _
      | exact foghornref18_Gcd.mono _ _ _
      | exact foghornref18_Of.mono _ _
      | exact foghornref18_Product.mono _ _ _
      | exact foghornref18_Roots.mono _ _
      | exact foghornref18_Same.mono _ _ _
      | exact foghornref18_Slope.mono _ _
      | exact foghornref18_Sum.mono _ _ _
      | exact LeO.none _
      | refine LeO.ite ?_ ?_
      | refine LeO.bind ?_ (fun _ => ?_)
    · intro y0 y1 y2 y3 y4 y5
      unfold foghornlaw18_polynomials.j2
      repeat' first
      | (with_reducible exact ih0 _ _ _ _ _ _)
      | (with_reducible exact ih1 _ _ _ _ _ _)
      | (with_reducible exact ih2 _ _ _ _ _ _)
      | (with_reducible exact ih3 _ _ _ _ _ _)
      | (with_reducible exact ih4 _ _ _ _ _ _)
      | (with_reducible exact field_Divide.mono _ _ _)
      | (with_reducible exact field_Gcd.mono _ _ _)
      | (with_reducible exact field_Of.mono _ _)
      | (with_reducible exact field_Product.mono _ _ _)
      | (with_reducible exact field_Roots.mono _ _)
      | (with_reducible exact field_Slope.mono _ _)
      | (with_reducible exact field_Sum.mono _ _ _)
      | (with_reducible exact foghornlaw18_spoilt.mono _ _ _ _)
      | (with_reducible exact foghornref18_At.mono _ _ _)
      | (with_reducible exact foghornref18_Divide.mono _ _ _)
      | (with_reducible exact foghornref18_Gcd.mono _ _ _)
      | (with_reducible exact foghornref18_Of.mono _ _)
      | (with_reducible exact foghornref18_Product.mono _ _ _)
      | (with_reducible exact foghornref18_Roots.mono _ _)
      | (with_reducible exact foghornref18_Same.mono _ _ _)
      | (with_reducible exact foghornref18_Slope.mono _ _)
      | (with_reducible exact foghornref18_Sum.mono _ _ _)
      | (with_reducible exact LeO.refl _)
      | (with_reducible exact LeO.none _)
      | (with_reducible refine LeO.ite ?_ ?_)
      | (with_reducible refine LeO.bind ?_ (fun _ => ?_))
      | exact ih0 _ _ _ _ _ _
      | exact ih1 _ _ _ _ _ _
      | exact ih2 _ _ _ _ _ _
      | exact ih3 _ _ _ _ _ _
      | exact ih4 _ _ _ _ _ _
      | exact field_Divide.mono _ _ _
      | exact field_Gcd.mono _ _ _
      | exact field_Of.mono _ _
      | exact field_Product.mono _ _ _
      | exact field_Roots.mono _ _
      | exact field_Slope.mono _ _
      | exact field_Sum.mono _ _ _
      | exact foghornlaw18_spoilt.mono _ _ _ _
      | exact foghornref18_At.mono _ _ _
      | exact foghornref18_Divide.mono _ _ _
      | exact foghornref18_Gcd.mono _ _ _
      | exact foghornref18_Of.mono _ _
      | exact foghornref18_Product.mono _ _ _
      | exact foghornref18_Roots.mono _ _
      | exact foghornref18_Same.mono _ _ _
      | exact foghornref18_Slope.mono _ _
      | exact foghornref18_Sum.mono _ _ _
      | exact LeO.none _
      | refine LeO.ite ?_ ?_
      | refine LeO.bind ?_ (fun _ => ?_)
    · intro y0 y1 y2 y3 y4 y5
      unfold foghornlaw18_polynomials.j3
      repeat' first
      | (with_reducible exact ih0 _ _ _ _ _ _)
      | (with_reducible exact ih1 _ _ _ _ _ _)
      | (with_reducible exact ih2 _ _ _ _ _ _)
      | (with_reducible exact ih3 _ _ _ _ _ _)
      | (with_reducible exact ih4 _ _ _ _ _ _)
      | (with_reducible exact field_Divide.mono _ _ _)
      | (with_reducible exact field_Gcd.mono _ _ _)
      | (with_reducible exact field_Of.mono _ _)
      | (with_reducible exact field_Product.mono _ _ _)
      | (with_reducible exact field_Roots.mono _ _)
      | (with_reducible exact field_Slope.mono _ _)
      | (with_reducible exact field_Sum.mono _ _ _)
      | (with_reducible exact foghornlaw18_spoilt.mono _ _ _ _)
      | (with_reducible exact foghornref18_At.mono _ _ _)
      | (with_reducible exact foghornref18_Divide.mono _ _ _)
      | (with_reducible exact foghornref18_Gcd.mono _ _ _)
      | (with_reducible exact foghornref18_Of.mono _ _)
      | (with_reducible exact foghornref18_Product.mono _ _ _)
      | (with_reducible exact foghornref18_Roots.mono _ _)
      | (with_reducible exact foghornref18_Same.mono _ _ _)
      | (with_reducible exact foghornref18_Slope.mono _ _)
      | (with_reducible exact foghornref18_Sum.mono _ _ _)
      | (with_reducible exact LeO.refl _)
      | (with_reducible exact LeO.none _)
      | (with_reducible refine LeO.ite ?_ ?_)
      | (with_reducible refine LeO.bind ?_ (fun _ => ?_))
      | exact ih0 _ _ _ _ _ _
      | exact ih1 _ _ _ _ _ _
      | exact ih2 _ _ _ _ _ _
      | exact ih3 _ _ _ _ _ _
      | exact ih4 _ _ _ _ _ _
      | exact field_Divide.mono _ _ _
      | exact field_Gcd.mono _ _ _
      | exact field_Of.mono _ _
      | exact field_Product.mono _ _ _
      | exact field_Roots.mono _ _
      | exact field_Slope.mono _ _
      | exact field_Sum.mono _ _ _
      | exact foghornlaw18_spoilt.mono _ _ _ _
      | exact foghornref18_At.mono _ _ _
      | exact foghornref18_Divide.mono _ _ _
      | exact foghornref18_Gcd.mono _ _ _
      | exact foghornref18_Of.mono _ _
      | exact foghornref18_Product.mono _ _ _
      | exact foghornref18_Roots.mono _ _
      | exact foghornref18_Same.mono _ _ _
      | exact foghornref18_Slope.mono _ _
      | exact foghornref18_Sum.mono _ _ _
      | exact LeO.none _
      | refine LeO.ite ?_ ?_
      | refine LeO.bind ?_ (fun _ => ?_)
    · intro y0 y1 y2 y3 y4 y5
      unfold foghornlaw18_polynomials.j4
      repeat' first
      | (with_reducible exact ih0 _ _ _ _ _ _)
      | (with_reducible exact ih1 _ _ _ _ _ _)
      | (with_reducible exact ih2 _ _ _ _ _ _)
      | (with_reducible exact ih3 _ _ _ _ _ _)
      | (with_reducible exact ih4 _ _ _ _ _ _)
      | (with_reducible exact field_Divide.mono _ _ _)
      | (with_reducible exact field_Gcd.mono _ _ _)
      | (with_reducible exact field_Of.mono _ _)
      | (with_reducible exact field_Product.mono _ _ _)
      | (with_reducible exact field_Roots.mono _ _)
      | (with_reducible exact field_Slope.mono _ _)
      | (with_reducible exact field_Sum.mono _ _ _)
      | (with_reducible exact foghornlaw18_spoilt.mono _ _ _ _)
      | (with_reducible exact foghornref18_At.mono _ _ _)
      | (with_reducible exact foghornref18_Divide.mono _ _ _)
      | (with_reducible exact foghornref18_Gcd.mono _ _ _)
      | (with_reducible exact foghornref18_Of.mono _ _)
      | (with_reducible exact foghornref18_Product.mono _ _ _)
      | (with_reducible exact foghornref18_Roots.mono _ _)
      | (with_reducible exact foghornref18_Same.mono _ _ _)
      | (with_reducible exact foghornref18_Slope.mono _ _)
      | (with_reducible exact foghornref18_Sum.mono _ _ _)
      | (with_reducible exact LeO.refl _)
      | (with_reducible exact LeO.none _)
      | (with_reducible refine LeO.ite ?_ ?_)
      | (with_reducible refine LeO.bind ?_ (fun _ => ?_))
      | exact ih0 _ _ _ _ _ _
      | exact ih1 _ _ _ _ _ _
      | exact ih2 _ _ _ _ _ _
      | exact ih3 _ _ _ _ _ _
      | exact ih4 _ _ _ _ _ _
      | exact field_Divide.mono _ _ _
      | exact field_Gcd.mono _ _ _
      | exact field_Of.mono _ _
      | exact field_Product.mono _ _ _
      | exact field_Roots.mono _ _
      | exact field_Slope.mono _ _
      | exact field_Sum.mono _ _ _
      | exact foghornlaw18_spoilt.mono _ _ _ _
      | exact foghornref18_At.mono _ _ _
      | exact foghornref18_Divide.mono _ _ _
      | exact foghornref18_Gcd.mono _ _ _
      | exact foghornref18_Of.mono _ _
      | exact foghornref18_Product.mono _ _ _
      | exact foghornref18_Roots.mono _ _
      | exact foghornref18_Same.mono _ _ _
      | exact foghornref18_Slope.mono _ _
      | exact foghornref18_Sum.mono _ _ _
      | exact LeO.none _
      | refine LeO.ite ?_ ?_
      | refine LeO.bind ?_ (fun _ => ?_)
theorem foghornlaw18_polynomials.mono : ∀ a0 a1 a2 a3 a4 k, LeO (foghornlaw18_polynomials.f k a0 a1 a2 a3 a4) (foghornlaw18_polynomials.f (k + 1) a0 a1 a2 a3 a4) := by
  intro a0 a1 a2 a3 a4 k
  obtain ⟨ih0, ih1, ih2, ih3, ih4⟩ := foghornlaw18_polynomials.mono_l k
  unfold foghornlaw18_polynomials.f
  repeat' first
      | (with_reducible exact ih0 _ _ _ _ _ _)
      | (with_reducible exact ih1 _ _ _ _ _ _)
      | (with_reducible exact ih2 _ _ _ _ _ _)
      | (with_reducible exact ih3 _ _ _ _ _ _)
      | (with_reducible exact ih4 _ _ _ _ _ _)
      | (with_reducible exact field_Divide.mono _ _ _)
      | (with_reducible exact field_Gcd.mono _ _ _)
      | (with_reducible exact field_Of.mono _ _)
      | (with_reducible exact field_Product.mono _ _ _)
      | (with_reducible exact field_Roots.mono _ _)
      | (with_reducible exact field_Slope.mono _ _)
      | (with_reducible exact field_Sum.mono _ _ _)
      | (with_reducible exact foghornlaw18_spoilt.mono _ _ _ _)
      | (with_reducible exact foghornref18_At.mono _ _ _)
      | (with_reducible exact foghornref18_Divide.mono _ _ _)
      | (with_reducible exact foghornref18_Gcd.mono _ _ _)
      | (with_reducible exact foghornref18_Of.mono _ _)
      | (with_reducible exact foghornref18_Product.mono _ _ _)
      | (with_reducible exact foghornref18_Roots.mono _ _)
      | (with_reducible exact foghornref18_Same.mono _ _ _)
      | (with_reducible exact foghornref18_Slope.mono _ _)
      | (with_reducible exact foghornref18_Sum.mono _ _ _)
      | (with_reducible exact LeO.refl _)
      | (with_reducible exact LeO.none _)
      | (with_reducible refine LeO.ite ?_ ?_)
      | (with_reducible refine LeO.bind ?_ (fun _ => ?_))
      | exact ih0 _ _ _ _ _ _
      | exact ih1 _ _ _ _ _ _
      | exact ih2 _ _ _ _ _ _
      | exact ih3 _ _ _ _ _ _
      | exact ih4 _ _ _ _ _ _
      | exact field_Divide.mono _ _ _
      | exact field_Gcd.mono _ _ _
      | exact field_Of.mono _ _
      | exact field_Product.mono _ _ _
      | exact field_Roots.mono _ _
      | exact field_Slope.mono _ _
      | exact field_Sum.mono _ _ _
      | exact foghornlaw18_spoilt.mono _ _ _ _
      | exact foghornref18_At.mono _ _ _
      | exact foghornref18_Divide.mono _ _ _
      | exact foghornref18_Gcd.mono _ _ _
      | exact foghornref18_Of.mono _ _
      | exact foghornref18_Product.mono _ _ _
      | exact foghornref18_Roots.mono _ _
      | exact foghornref18_Same.mono _ _ _
      | exact foghornref18_Slope.mono _ _
      | exact foghornref18_Sum.mono _ _ _
      | exact LeO.none _
      | refine LeO.ite ?_ ?_
      | refine LeO.bind ?_ (fun _ => ?_)

/-! ### foghornlaw18_kept: function 62 -/
def foghornlaw18_kept.f (k : Nat) (l0 : List Int) (l1 : List Int) : Option (Bool) := foghornref18_Same.f k l0 l1
theorem foghornlaw18_kept.mono : ∀ a0 a1 k, LeO (foghornlaw18_kept.f k a0 a1) (foghornlaw18_kept.f (k + 1) a0 a1) := fun a0 a1 k => foghornref18_Same.mono a0 a1 k

/-! ### foghornlaw18_FieldPolynomials: function 13 -/
mutual
def foghornlaw18_FieldPolynomials.j0 : Nat → List Int → List Int → Int → List Int → List Int → Bool → Option (Bool)
  | 0, _, _, _, _, _, _ => none
  | k + 1, x0, x1, x2, x7, x8, x33 => if x33 = true then (some false) else (if 0 ≤ (x0.length : Int) then (if ((x0.length : Int) : Int).toNat ≤ 281474976710656 then (foghornlaw18_FieldPolynomials.l0 k x0 x1 x2 x7 x8 (List.replicate ((x0.length : Int) : Int).toNat 0) 0) else (none)) else (none))
def foghornlaw18_FieldPolynomials.l0 : Nat → List Int → List Int → Int → List Int → List Int → List Int → Int → Option (Bool)
  | 0, _, _, _, _, _, _, _ => none
  | k + 1, x0, x1, x2, x7, x8, x9, x10 => if x10 < (x0.length : Int) then (if 0 ≤ x10 then (if x10 < (x9.length : Int) then ((some (x9.set (x10 : Int).toNat (Go.bits .xor .u8 (rd x0 x10) 3) : List Int)).bind fun y942 => (if x10 < (x7.length : Int) then (foghornlaw18_FieldPolynomials.l0 k x0 x1 x2 (x7.set (x10 : Int).toNat (rd y942 x10)) x8 y942 (wrap64 (x10 + 1))) else (none))) else (none)) else (none)) else ((foghornlaw18_polynomials.f k x7 x8 x9 x1 x2).bind fun t945 => (if t945 = true then ((foghornlaw18_kept.f k x8 x1).bind fun t946 => (if t946 = true then ((foghornlaw18_awake.f k).bind fun t947 => (some t947)) else (some false))) else (some false)))
end
def foghornlaw18_FieldPolynomials.f (k : Nat) (l0 : List Int) (l1 : List Int) (a2 : Int) : Option (Bool) := (foghornlaw18_lent.f l0).bind fun t929 => ((foghornlaw18_lent.f l1).bind fun t932 => ((foghornlaw18_polynomials.f k t929 t932 l0 l1 a2).bind fun t935 => (if t935 = true then ((foghornlaw18_kept.f k t929 l0).bind fun t936 => (if t936 = true then ((foghornlaw18_kept.f k t932 l1).bind fun t937 => (foghornlaw18_FieldPolynomials.j0 k l0 l1 a2 t929 t932 (!t937))) else (foghornlaw18_FieldPolynomials.j0 k l0 l1 a2 t929 t932 true))) else (foghornlaw18_FieldPolynomials.j0 k l0 l1 a2 t929 t932 true))))
theorem foghornlaw18_FieldPolynomials.mono_l : ∀ k, (∀ y0 y1 y2 y3 y4 y5, LeO (foghornlaw18_FieldPolynomials.j0 k y0 y1 y2 y3 y4 y5) (foghornlaw18_FieldPolynomials.j0 (k + 1) y0 y1 y2 y3 y4 y5)) ∧ (∀ y0 y1 y2 y3 y4 y5 y6, LeO (foghornlaw18_FieldPolynomials.l0 k y0 y1 y2 y3 y4 y5 y6) (foghornlaw18_FieldPolynomials.l0 (k + 1) y0 y1 y2 y3 y4 y5 y6))
  | 0 => ⟨fun _ _ _ _ _ _ r h => by simp [foghornlaw18_FieldPolynomials.j0] at h, fun _ _ _ _ _ _ _ r h => by simp [foghornlaw18_FieldPolynomials.l0] at h⟩
  | k + 1 => by
    obtain ⟨ih0, ih1⟩ := foghornlaw18_FieldPolynomials.mono_l k
    refine ⟨?_, ?_⟩
    · intro y0 y1 y2 y3 y4 y5
      unfold foghornlaw18_FieldPolynomials.j0
      repeat' first
      | (with_reducible exact ih0 _ _ _ _ _ _)
      | (with_reducible exact ih1 _ _ _ _ _ _ _)
      | (with_reducible exact foghornlaw18_awake.mono _)
      | (with_reducible exact foghornlaw18_kept.mono _ _ _)
      | (with_reducible exact foghornlaw18_polynomials.mono _ _ _ _ _ _)
      | (with_reducible exact LeO.refl _)
      | (with_reducible exact LeO.none _)
      | (with_reducible refine LeO.ite ?_ ?_)
      | (with_reducible refine LeO.bind ?_ (fun _ => ?_))
      | exact ih0 _ _ _ _ _ _
      | exact ih1 _ _ _ _ _ _ _
      | exact foghornlaw18_awake.mono _
      | exact foghornlaw18_kept.mono _ _ _
      | exact foghornlaw18_polynomials.mono _ _ _ _ _ _
      | exact LeO.none _
      | refine LeO.ite ?_ ?_
      | refine LeO.bind ?_ (fun _ => ?_)
    · intro y0 y1 y2 y3 y4 y5 y6
      unfold foghornlaw18_FieldPolynomials.l0
      repeat' first
      | (with_reducible exact ih0 _ _ _ _ _ _)
      | (with_reducible exact ih1 _ _ _ _ _ _ _)
      | (with_reducible exact foghornlaw18_awake.mono _)
      | (with_reducible exact foghornlaw18_kept.mono _ _ _)
      | (with_reducible exact foghornlaw18_polynomials.mono _ _ _ _ _ _)
      | (with_reducible exact LeO.refl _)
      | (with_reducible exact LeO.none _)
      | (with_reducible refine LeO.ite ?_ ?_)
      | (with_reducible refine LeO.bind ?_ (fun _ => ?_))
      | exact ih0 _ _ _ _ _ _
      | exact ih1 _ _ _ _ _ _ _
      | exact foghornlaw18_awake.mono _
      | exact foghornlaw18_kept.mono _ _ _
      | exact foghornlaw18_polynomials.mono _ _ _ _ _ _
      | exact LeO.none _
      | refine LeO.ite ?_ ?_
      | refine LeO.bind ?_ (fun _ => ?_)
theorem foghornlaw18_FieldPolynomials.mono : ∀ a0 a1 a2 k, LeO (foghornlaw18_FieldPolynomials.f k a0 a1 a2) (foghornlaw18_FieldPolynomials.f (k + 1) a0 a1 a2) := by
  intro a0 a1 a2 k
  obtain ⟨ih0, ih1⟩ := foghornlaw18_FieldPolynomials.mono_l k
  unfold foghornlaw18_FieldPolynomials.f
  repeat' first
      | (with_reducible exact ih0 _ _ _ _ _ _)
      | (with_reducible exact ih1 _ _ _ _ _ _ _)
      | (with_reducible exact foghornlaw18_awake.mono _)
      | (with_reducible exact foghornlaw18_kept.mono _ _ _)
      | (with_reducible exact foghornlaw18_polynomials.mono _ _ _ _ _ _)
      | (with_reducible exact LeO.refl _)
      | (with_reducible exact LeO.none _)
      | (with_reducible refine LeO.ite ?_ ?_)
      | (with_reducible refine LeO.bind ?_ (fun _ => ?_))
      | exact ih0 _ _ _ _ _ _
      | exact ih1 _ _ _ _ _ _ _
      | exact foghornlaw18_awake.mono _
      | exact foghornlaw18_kept.mono _ _ _
      | exact foghornlaw18_polynomials.mono _ _ _ _ _ _
      | exact LeO.none _
      | refine LeO.ite ?_ ?_
      | refine LeO.bind ?_ (fun _ => ?_)
/-- THE ONE PURE STATEMENT of foghornlaw18_FieldPolynomials: yours. -/
def foghornlaw18_FieldPolynomials.Pure : Prop := ∀ (l0 : List Int) (l1 : List Int) (a2 : Int), l0.length ≤ maxLen → l0.length * 1 ≤ 140737488351232 → (∀ x ∈ l0, (Lit.int .u8 x).wf = true) → l1.length ≤ maxLen → l1.length * 1 ≤ 140737488351232 → (∀ x ∈ l1, (Lit.int .u8 x).wf = true) → (Lit.int .u8 a2).wf = true → ∃ k, foghornlaw18_FieldPolynomials.f k l0 l1 a2 = some true

end Go.Proofs.Ytmdeldiocaofkaa.Q
