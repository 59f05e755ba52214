-- Printed by myprint.py (ours) over the kit's printer, out of the translation.
import Derived.Test.YtncoakokdajibaaQ0
import Derived.Test.YtncoakokdajibaaQF0
namespace Go.Proofs.Ytncoakokdajibaa.Q
open Go.RowKit Go.Proofs.YtncoakokdajibaaW.PrintWords Go.Proofs.YtncoakokdajibaaW.PrintLast Go.Proofs.YtncoakokdajibaaW.PrintMore
attribute [local go_sem] ArrW.ptrOf_slice max2_int min2_int max_two min_two max_three min_three max_four min_four   -- for this text's walks alone
set_option linter.unusedVariables false
set_option linter.unusedSimpArgs false

/-! ### foghornref19_Check: function 66 -/
def foghornref19_Check.f (a0 : Int) (a1 : Int) : Option (Int) := if a1 < 2 then (some 1) else (if a1 > 64 then (some 1) else (if (Int.tmod a1 2) = 0 then (if a0 < (wrap64 (a1 + 1)) then (some 1) else (if a0 > 255 then (some 1) else (some 0))) else (some 1)))

/-! ### foghornref19_Times: function 68 -/
def foghornref19_Times.l0 : Nat → Int → Int → Int → Int → Option (Int)
  | 0, _, _, _, _ => none
  | k + 1, x1, x5, x6, x7 => if x7 < 8 then (if 0 ≤ x7 then (if (Go.bits .and .u8 (shr .u8 x1 x7) 1) = 1 then (if (wrap64 (2 * x5)) > 255 then (foghornref19_Times.l0 k x1 (Go.bits .xor .i64 (wrap64 (2 * x5)) 285) (Go.bits .xor .i64 x6 x5) (wrap64 (x7 + 1))) else (foghornref19_Times.l0 k x1 (wrap64 (2 * x5)) (Go.bits .xor .i64 x6 x5) (wrap64 (x7 + 1)))) else (if (wrap64 (2 * x5)) > 255 then (foghornref19_Times.l0 k x1 (Go.bits .xor .i64 (wrap64 (2 * x5)) 285) x6 (wrap64 (x7 + 1))) else (foghornref19_Times.l0 k x1 (wrap64 (2 * x5)) x6 (wrap64 (x7 + 1))))) else (none)) else (some ((x6) % 256))
def foghornref19_Times.f (k : Nat) (a0 : Int) (a1 : Int) : Option (Int) := foghornref19_Times.l0 k a1 (wrap64 (a0)) 0 0
theorem foghornref19_Times.mono_l : ∀ k, (∀ y0 y1 y2 y3, LeO (foghornref19_Times.l0 k y0 y1 y2 y3) (foghornref19_Times.l0 (k + 1) y0 y1 y2 y3))
  | 0 => fun _ _ _ _ r h => by simp [foghornref19_Times.l0] at h
  | k + 1 => by
    have ih0 := foghornref19_Times.mono_l k
    · intro y0 y1 y2 y3
      unfold foghornref19_Times.l0
      repeat' first
      | (with_reducible exact ih0 _ _ _ _)
      | (with_reducible exact LeO.refl _)
      | (with_reducible exact LeO.none _)
      | (with_reducible refine LeO.ite ?_ ?_)
      | (with_reducible refine LeO.bind ?_ (fun _ => ?_))
      | exact ih0 _ _ _ _
      | exact LeO.none _
      | refine LeO.ite ?_ ?_
      | refine LeO.bind ?_ (fun _ => ?_)
theorem foghornref19_Times.mono : ∀ a0 a1 k, LeO (foghornref19_Times.f k a0 a1) (foghornref19_Times.f (k + 1) a0 a1) := by
  intro a0 a1 k
  have ih0 := foghornref19_Times.mono_l k
  unfold foghornref19_Times.f
  repeat' first
      | (with_reducible exact ih0 _ _ _ _)
      | (with_reducible exact LeO.refl _)
      | (with_reducible exact LeO.none _)
      | (with_reducible refine LeO.ite ?_ ?_)
      | (with_reducible refine LeO.bind ?_ (fun _ => ?_))
      | exact ih0 _ _ _ _
      | exact LeO.none _
      | refine LeO.ite ?_ ?_
      | refine LeO.bind ?_ (fun _ => ?_)

/-! ### foghornref19_Power: function 70 -/
def foghornref19_Power.l0 : Nat → Int → Int → Int → Option (Int)
  | 0, _, _, _ => none
  | k + 1, x0, x3, x4 => if x4 < x0 then ((foghornref19_Times.f k x3 2).bind fun t242 => (foghornref19_Power.l0 k x0 t242 (wrap64 (x4 + 1)))) else (some x3)
def foghornref19_Power.f (k : Nat) (a0 : Int) : Option (Int) := foghornref19_Power.l0 k a0 1 0
theorem foghornref19_Power.mono_l : ∀ k, (∀ y0 y1 y2, LeO (foghornref19_Power.l0 k y0 y1 y2) (foghornref19_Power.l0 (k + 1) y0 y1 y2))
  | 0 => fun _ _ _ r h => by simp [foghornref19_Power.l0] at h
  | k + 1 => by
    have ih0 := foghornref19_Power.mono_l k
    · intro y0 y1 y2
      unfold foghornref19_Power.l0
      repeat' first
      | (with_reducible exact ih0 _ _ _)
      | (with_reducible exact foghornref19_Times.mono _ _ _)
      | (with_reducible exact LeO.refl _)
      | (with_reducible exact LeO.none _)
      | (with_reducible refine LeO.ite ?_ ?_)
      | (with_reducible refine LeO.bind ?_ (fun _ => ?_))
      | exact ih0 _ _ _
      | exact foghornref19_Times.mono _ _ _
      | exact LeO.none _
      | refine LeO.ite ?_ ?_
      | refine LeO.bind ?_ (fun _ => ?_)
theorem foghornref19_Power.mono : ∀ a0 k, LeO (foghornref19_Power.f k a0) (foghornref19_Power.f (k + 1) a0) := by
  intro a0 k
  have ih0 := foghornref19_Power.mono_l k
  unfold foghornref19_Power.f
  repeat' first
      | (with_reducible exact ih0 _ _ _)
      | (with_reducible exact foghornref19_Times.mono _ _ _)
      | (with_reducible exact LeO.refl _)
      | (with_reducible exact LeO.none _)
      | (with_reducible refine LeO.ite ?_ ?_)
      | (with_reducible refine LeO.bind ?_ (fun _ => ?_))
      | exact ih0 _ _ _
      | exact foghornref19_Times.mono _ _ _
      | exact LeO.none _
      | refine LeO.ite ?_ ?_
      | refine LeO.bind ?_ (fun _ => ?_)

/-! ### foghornref19_Generator: function 67 -/
mutual
def foghornref19_Generator.l0 : Nat → Int → List Int → Int → Option (List Int × Int)
  | 0, _, _, _ => none
  | k + 1, x0, x4, x5 => if x5 < x0 then ((foghornref19_Power.f k x5).bind fun t247 => (if 0 ≤ (wrap64 ((x4.length : Int) + 1)) then (if (wrap64 ((x4.length : Int) + 1) : Int).toNat ≤ 281474976710656 then (foghornref19_Generator.l1 k x0 x4 x5 t247 (List.replicate (wrap64 ((x4.length : Int) + 1) : Int).toNat 0) 0) else (none)) else (none))) else (some (x4, 0))
def foghornref19_Generator.l1 : Nat → Int → List Int → Int → Int → List Int → Int → Option (List Int × Int)
  | 0, _, _, _, _, _, _ => none
  | k + 1, x0, x4, x5, x6, x7, x8 => if x8 < (x4.length : Int) then (if 0 ≤ (wrap64 (x8 + 1)) then (if (wrap64 (x8 + 1)) < (x7.length : Int) then (if 0 ≤ x8 then ((some (x7.set ((wrap64 (x8 + 1)) : Int).toNat (Go.bits .xor .u8 (rd x7 (wrap64 (x8 + 1))) (rd x4 x8)) : List Int)).bind fun y253 => (if x8 < (x7.length : Int) then ((foghornref19_Times.f k (rd x4 x8) x6).bind fun t256 => (foghornref19_Generator.l1 k x0 x4 x5 x6 (y253.set (x8 : Int).toNat (Go.bits .xor .u8 (rd y253 x8) t256)) (wrap64 (x8 + 1)))) else (none))) else (none)) else (none)) else (none)) else (foghornref19_Generator.l0 k x0 x7 (wrap64 (x5 + 1)))
end
def foghornref19_Generator.f (k : Nat) (a0 : Int) : Option (List Int × Int) := (foghornref19_Check.f (wrap64 (a0 + 1)) a0).bind fun t243 => (if t243 = 0 then (foghornref19_Generator.l0 k a0 (([1] : List Int)) 0) else (some (([] : List Int), 1)))
theorem foghornref19_Generator.mono_l : ∀ k, (∀ y0 y1 y2, LeO (foghornref19_Generator.l0 k y0 y1 y2) (foghornref19_Generator.l0 (k + 1) y0 y1 y2)) ∧ (∀ y0 y1 y2 y3 y4 y5, LeO (foghornref19_Generator.l1 k y0 y1 y2 y3 y4 y5) (foghornref19_Generator.l1 (k + 1) y0 y1 y2 y3 y4 y5))
  | 0 => ⟨fun _ _ _ r h => by simp [foghornref19_Generator.l0] at h, fun _ _ _ _ _ _ r h => by simp [foghornref19_Generator.l1] at h⟩
  | k + 1 => by
    obtain ⟨ih0, ih1⟩ := foghornref19_Generator.mono_l k
    refine ⟨?_, ?_⟩
    · intro y0 y1 y2
      unfold foghornref19_Generator.l0
      repeat' first
      | (with_reducible exact ih0 _ _ _)
      | (with_reducible exact ih1 _ _ _ _ _ _)
      | (with_reducible exact foghornref19_Power.mono _ _)
      | (with_reducible exact foghornref19_Times.mono _ _ _)
      | (with_reducible exact LeO.refl _)
      | (with_reducible exact LeO.none _)
      | (with_reducible refine LeO.ite ?_ ?_)
      | (with_reducible refine LeO.bind ?_ (fun _ => ?_))
      | exact ih0 _ _ _
      | exact ih1 _ _ _ _ _ _
      | exact foghornref19_Power.mono _ _
      | exact foghornref19_Times.mono _ _ _
      | exact LeO.none _
      | refine LeO.ite ?_ ?_
      | refine LeO.bind ?_ (fun _ => ?_)
    · intro y0 y1 y2 y3 y4 y5
      unfold foghornref19_Generator.l1
      repeat' first
      | (with_reducible exact ih0 _ _ _)
      | (with_reducible exact ih1 _ _ _ _ _ _)
      | (with_reducible exact foghornref19_Power.mono _ _)
      | (with_reducible exact foghornref19_Times.mono _ _ _)
      | (with_reducible exact LeO.refl _)
      | (with_reducible exact LeO.none _)
      | (with_reducible refine LeO.ite ?_ ?_)
      | (with_reducible refine LeO.bind ?_ (fun _ => ?_))
      | exact ih0 _ _ _
      | exact ih1 _ _ _ _ _ _
      | exact foghornref19_Power.mono _ _
      | exact foghornref19_Times.mono _ _ _
      | exact LeO.none _
      | refine LeO.ite ?_ ?_
      | refine LeO.bind ?_ (fun _ => ?_)
theorem foghornref19_Generator.mono : ∀ a0 k, LeO (foghornref19_Generator.f k a0) (foghornref19_Generator.f (k + 1) a0) := by
  intro a0 k
  obtain ⟨ih0, ih1⟩ := foghornref19_Generator.mono_l k
  unfold foghornref19_Generator.f
  repeat' first
      | (with_reducible exact ih0 _ _ _)
      | (with_reducible exact ih1 _ _ _ _ _ _)
      | (with_reducible exact foghornref19_Power.mono _ _)
      | (with_reducible exact foghornref19_Times.mono _ _ _)
      | (with_reducible exact LeO.refl _)
      | (with_reducible exact LeO.none _)
      | (with_reducible refine LeO.ite ?_ ?_)
      | (with_reducible refine LeO.bind ?_ (fun _ => ?_))
      | exact ih0 _ _ _
      | exact ih1 _ _ _ _ _ _
      | exact foghornref19_Power.mono _ _
      | exact foghornref19_Times.mono _ _ _
      | exact LeO.none _
      | refine LeO.ite ?_ ?_
      | refine LeO.bind ?_ (fun _ => ?_)
def foghornref19_Generator.T12 : Bool × List (List Nat × List Nat) := (true, [([], []), ([], []), ([1], [1]), ([], []), ([], []), ([4], [4]), ([3, 5], [3, 5]), ([6], [6]), ([], []), ([], []), ([8, 9], [8, 9]), ([10], [10]), ([7, 11], [7, 11]), ([0, 2, 0, 1, 2, 3, 4, 5, 6, 7, 8, 9, 10, 11, 12], [0, 2]), ([13, 12, 0, 1, 2, 3, 4, 5, 6, 7, 8, 9, 10, 11, 12], [12, 13])])
def foghornref19_Generator.B12 : List Nat := [0, 0, 2, 0, 0, 16, 56, 120, 0, 0, 768, 1792, 4088, 8191, 16383]
theorem foghornref19_Generator.tab12 : rtab .any (opsOf Try.f67 12) = foghornref19_Generator.T12 := by kernel_rfl
theorem foghornref19_Generator.bits12 : waitsOk foghornref19_Generator.T12.2 foghornref19_Generator.B12 = true := by kernel_rfl
def foghornref19_Generator.T13 : Bool × List (List Nat × List Nat) := (true, [([], []), ([], []), ([], []), ([], []), ([2, 3], [2, 3]), ([4], [4]), ([], []), ([], []), ([6, 7], [6, 7]), ([8], [8]), ([], []), ([9, 10], [9, 10]), ([5, 11], [5, 11]), ([0, 1, 0, 1, 2, 3, 4, 5, 6, 7, 8, 9, 10, 11, 12], [0, 1]), ([13, 12, 11, 0, 1, 2, 3, 4, 5, 6, 7, 8, 9, 10, 11, 12], [12, 13])])
def foghornref19_Generator.B13 : List Nat := [0, 0, 0, 0, 12, 28, 0, 0, 192, 448, 0, 1984, 4092, 8191, 16383]
theorem foghornref19_Generator.tab13 : rtab .any (opsOf Try.f67 13) = foghornref19_Generator.T13 := by kernel_rfl
theorem foghornref19_Generator.bits13 : waitsOk foghornref19_Generator.T13.2 foghornref19_Generator.B13 = true := by kernel_rfl

/-! ### foghornref19_Encode: function 24 -/
mutual
def foghornref19_Encode.j0 : Nat → ByteArray → Int → Bool → Option (ByteArray × Int)
  | 0, _, _, _ => none
  | k + 1, x0, x1, x31 => if x31 = true then (some ((⟨#[]⟩ : ByteArray), 1)) else ((foghornref19_Generator.f k x1).bind fun bt259 => (if 0 ≤ (wrap64 ((x0.size : Int) + x1)) then (if (wrap64 ((x0.size : Int) + x1) : Int).toNat ≤ 281474976710656 then (foghornref19_Encode.l0 k x0 x1 bt259.1 (List.replicate (wrap64 ((x0.size : Int) + x1) : Int).toNat 0) 0) else (none)) else (none)))
def foghornref19_Encode.l0 : Nat → ByteArray → Int → List Int → List Int → Int → Option (ByteArray × Int)
  | 0, _, _, _, _, _ => none
  | k + 1, x0, x1, x6, x8, x9 => if x9 < (x0.size : Int) then (if 0 ≤ x9 then (if 0 ≤ (wrap64 ((wrap64 ((x8.length : Int) - 1)) - x9)) then (if (wrap64 ((wrap64 ((x8.length : Int) - 1)) - x9)) < (x8.length : Int) then (foghornref19_Encode.l0 k x0 x1 x6 (x8.set ((wrap64 ((wrap64 ((x8.length : Int) - 1)) - x9)) : Int).toNat (bt x0 x9)) (wrap64 (x9 + 1))) else (none)) else (none)) else (none)) else (foghornref19_Encode.l1 k x0 x1 x6 x8 (wrap64 ((x8.length : Int) - 1)))
def foghornref19_Encode.l1 : Nat → ByteArray → Int → List Int → List Int → Int → Option (ByteArray × Int)
  | 0, _, _, _, _, _ => none
  | k + 1, x0, x1, x6, x8, x10 => if x10 ≥ x1 then (if 0 ≤ x10 then (if x10 < (x8.length : Int) then (foghornref19_Encode.l2 k x0 x1 x6 x8 x10 (rd x8 x10) 0) else (none)) else (none)) else (if x0.size ≤ 9223372036854775807 then (foghornref19_Encode.l3 k x8 (bytesOf x0) (wrap64 (x1 - 1))) else (none))
def foghornref19_Encode.l2 : Nat → ByteArray → Int → List Int → List Int → Int → Int → Int → Option (ByteArray × Int)
  | 0, _, _, _, _, _, _, _ => none
  | k + 1, x0, x1, x6, x8, x10, x11, x12 => if x12 < (x6.length : Int) then (if 0 ≤ (wrap64 ((wrap64 (x10 - x1)) + x12)) then (if (wrap64 ((wrap64 (x10 - x1)) + x12)) < (x8.length : Int) then (if 0 ≤ x12 then ((foghornref19_Times.f k x11 (rd x6 x12)).bind fun t270 => (foghornref19_Encode.l2 k x0 x1 x6 (x8.set ((wrap64 ((wrap64 (x10 - x1)) + x12)) : Int).toNat (Go.bits .xor .u8 (rd x8 (wrap64 ((wrap64 (x10 - x1)) + x12))) t270)) x10 x11 (wrap64 (x12 + 1)))) else (none)) else (none)) else (none)) else (foghornref19_Encode.l1 k x0 x1 x6 x8 (wrap64 (x10 - 1)))
def foghornref19_Encode.l3 : Nat → List Int → List Int → Int → Option (ByteArray × Int)
  | 0, _, _, _ => none
  | k + 1, x8, x13, x14 => if x14 ≥ 0 then (if 0 ≤ x14 then (if x14 < (x8.length : Int) then (if x13.length < 140737488355328 then (foghornref19_Encode.l3 k x8 (x13 ++ [rd x8 x14]) (wrap64 (x14 - 1))) else (none)) else (none)) else (none)) else (some (strOfNums x13, 0))
end
def foghornref19_Encode.f (k : Nat) (a0 : ByteArray) (a1 : Int) : Option (ByteArray × Int) := if (a0.size : Int) < 1 then (foghornref19_Encode.j0 k a0 a1 true) else (if (a0.size : Int) > 255 then (foghornref19_Encode.j0 k a0 a1 true) else ((foghornref19_Check.f (wrap64 ((a0.size : Int) + a1)) a1).bind fun t258 => (foghornref19_Encode.j0 k a0 a1 (t258 != 0))))
theorem foghornref19_Encode.mono_l : ∀ k, (∀ y0 y1 y2, LeO (foghornref19_Encode.j0 k y0 y1 y2) (foghornref19_Encode.j0 (k + 1) y0 y1 y2)) ∧ (∀ y0 y1 y2 y3 y4, LeO (foghornref19_Encode.l0 k y0 y1 y2 y3 y4) (foghornref19_Encode.l0 (k + 1) y0 y1 y2 y3 y4)) ∧ (∀ y0 y1 y2 y3 y4, LeO (foghornref19_Encode.l1 k y0 y1 y2 y3 y4) (foghornref19_Encode.l1 (k + 1) y0 y1 y2 y3 y4)) ∧ (∀ y0 y1 y2 y3 y4 y5 y6, LeO (foghornref19_Encode.l2 k y0 y1 y2 y3 y4 y5 y6) (foghornref19_Encode.l2 (k + 1) y0 y1 y2 y3 y4 y5 y6)) ∧ (∀ y0 y1 y2, LeO (foghornref19_Encode.l3 k y0 y1 y2) (foghornref19_Encode.l3 (k + 1) y0 y1 y2))
  | 0 => ⟨fun _ _ _ r h => by simp [foghornref19_Encode.j0] at h, fun _ _ _ _ _ r h => by simp [foghornref19_Encode.l0] at h, fun _ _ _ _ _ r h => by simp [foghornref19_Encode.l1] at h, fun _ _ _ _ _ _ _ r h => by simp [foghornref19_Encode.l2] at h, fun _ _ _ r h => by simp [foghornref19_Encode.l3] at h⟩
  | k + 1 => by
    obtain ⟨ih0, ih1, ih2, ih3, ih4⟩ := foghornref19_Encode.mono_l k
    refine ⟨?_, ?_, ?_, ?_, ?_⟩
    · intro y0 y1 y2
      unfold foghornref19_Encode.j0
      repeat' first
      | (with_reducible exact ih0 _ _ _)
      | (with_reducible exact ih1 _ _ _ _ _)
      | (with_reducible exact ih2 _ _ _ _ _)
      | (with_reducible exact ih3 _ _ _ _ _ _ _)
      | (with_reducible exact ih4 _ _ _)
      | (with_reducible exact foghornref19_Generator.mono _ _)
      | (with_reducible exact foghornref19_Times.mono _ _ _)
      | (with_reducible exact LeO.refl _)
      | (with_reducible exact LeO.none _)
      | (with_reducible refine LeO.ite ?_ ?_)
      | (with_reducible refine LeO.bind ?_ (fun _ => ?_))
      | exact ih0 _ _ _
      | exact ih1 _ _ _ _ _
      | exact ih2 _ _ _ _ _
      | exact ih3 _ _ _ _ _ _ _
      | exact ih4 _ _ _
      | exact foghornref19_Generator.mono _ _
      | exact foghornref19_Times.mono _ _ _
      | exact LeO.none _
      | refine LeO.ite ?_ ?_
      | refine LeO.bind ?_ (fun _ => ?_)
    · intro y0 y1 y2 y3 y4
      unfold foghornref19_Encode.l0
      repeat' first
      | (with_reducible exact ih0 _ _ _)
      | (with_reducible exact ih1 _ _ _ _ _)
      | (with_reducible exact ih2 _ _ _ _ _)
      | (with_reducible exact ih3 _ _ _ _ _ _ _)
      | (with_reducible exact ih4 _ _ _)
      | (with_reducible exact foghornref19_Generator.mono _ _)
      | (with_reducible exact foghornref19_Times.mono _ _ _)
      | (with_reducible exact LeO.refl _)
      | (with_reducible exact LeO.none _)
      | (with_reducible refine LeO.ite ?_ ?_)
      | (with_reducible refine LeO.bind ?_ (fun _ => ?_))
      | exact ih0 _ _ _
      | exact ih1 _ _ _ _ _
      | exact ih2 _ _ _ _ _
      | exact ih3 _ _ _ _ _ _ _
      | exact ih4 _ _ _
      | exact foghornref19_Generator.mono _ _
      | exact foghornref19_Times.mono _ _ _
      | exact LeO.none _
      | refine LeO.ite ?_ ?_
      | refine LeO.bind ?_ (fun _ => ?_)
    · intro y0 y1 y2 y3 y4
      unfold foghornref19_Encode.l1
      repeat' first
      | (with_reducible exact ih0 _ _ _)
      | (with_reducible exact ih1 _ _ _ _ _)
      | (with_reducible exact ih2 _ _ _ _ _)
      | (with_reducible exact ih3 _ _ _ _ _ _ _)
      | (with_reducible exact ih4 _ _ _)
      | (with_reducible exact foghornref19_Generator.mono _ _)
      | (with_reducible exact foghornref19_Times.mono _ _ _)
      | (with_reducible exact LeO.refl _)
      | (with_reducible exact LeO.none _)
      | (with_reducible refine LeO.ite ?_ ?_)
      | (with_reducible refine LeO.bind ?_ (fun _ => ?_))
      | exact ih0 _ _ _
      | exact ih1 _ _ _ _ _
      | exact ih2 _ _ _ _ _
      | exact ih3 _ _ _ _ _ _ _
      | exact ih4 _ _ _
      | exact foghornref19_Generator.mono _ _
      | exact foghornref19_Times.mono _ _ _
      | exact LeO.none _
      | refine LeO.ite ?_ ?_
      | refine LeO.bind ?_ (fun _ => ?_)
    · intro y0 y1 y2 y3 y4 y5 y6
      unfold foghornref19_Encode.l2
      repeat' first
      | (with_reducible exact ih0 _ _ _)
      | (with_reducible exact ih1 _ _ _ _ _)
      | (with_reducible exact ih2 _ _ _ _ _)
      | (with_reducible exact ih3 _ _ _ _ _ _ _)
      | (with_reducible exact ih4 _ _ _)
      | (with_reducible exact foghornref19_Generator.mono _ _)
      | (with_reducible exact foghornref19_Times.mono _ _ _)
      | (with_reducible exact LeO.refl _)
      | (with_reducible exact LeO.none _)
      | (with_reducible refine LeO.ite ?_ ?_)
      | (with_reducible refine LeO.bind ?_ (fun _ => ?_))
      | exact ih0 _ _ _
      | exact ih1 _ _ _ _ _
      | exact ih2 _ _ _ _ _
      | exact ih3 _ _ _ _ _ _ _
      | exact ih4 _ _ _
      | exact foghornref19_Generator.mono _ _
      | exact foghornref19_Times.mono _ _ _
      | exact LeO.none _
      | refine LeO.ite ?_ ?_
      | refine LeO.bind ?_ (fun _ => ?_)
    · intro y0 y1 y2
      unfold foghornref19_Encode.l3
      repeat' first
      | (with_reducible exact ih0 _ _ _)
      | (with_reducible exact ih1 _ _ _ _ _)
      | (with_reducible exact ih2 _ _ _ _ _)
      | (with_reducible exact ih3 _ _ _ _ _ _ _)
      | (with_reducible exact ih4 _ _ _)
      | (with_reducible exact foghornref19_Generator.mono _ _)
      | (with_reducible exact foghornref19_Times.mono _ _ _)
      | (with_reducible exact LeO.refl _)
      | (with_reducible exact LeO.none _)
      | (with_reducible refine LeO.ite ?_ ?_)
      | (with_reducible refine LeO.bind ?_ (fun _ => ?_))
      | exact ih0 _ _ _
      | exact ih1 _ _ _ _ _
      | exact ih2 _ _ _ _ _
      | exact ih3 _ _ _ _ _ _ _
      | exact ih4 _ _ _
      | exact foghornref19_Generator.mono _ _
      | exact foghornref19_Times.mono _ _ _
      | exact LeO.none _
      | refine LeO.ite ?_ ?_
      | refine LeO.bind ?_ (fun _ => ?_)
theorem foghornref19_Encode.mono : ∀ a0 a1 k, LeO (foghornref19_Encode.f k a0 a1) (foghornref19_Encode.f (k + 1) a0 a1) := by
  intro a0 a1 k
  obtain ⟨ih0, ih1, ih2, ih3, ih4⟩ := foghornref19_Encode.mono_l k
  unfold foghornref19_Encode.f
  repeat' first
      | (with_reducible exact ih0 _ _ _)
      | (with_reducible exact ih1 _ _ _ _ _)
      | (with_reducible exact ih2 _ _ _ _ _)
      | (with_reducible exact ih3 _ _ _ _ _ _ _)
      | (with_reducible exact ih4 _ _ _)
      | (with_reducible exact foghornref19_Generator.mono _ _)
      | (with_reducible exact foghornref19_Times.mono _ _ _)
      | (with_reducible exact LeO.refl _)
      | (with_reducible exact LeO.none _)
      | (with_reducible refine LeO.ite ?_ ?_)
      | (with_reducible refine LeO.bind ?_ (fun _ => ?_))
      | exact ih0 _ _ _
      | exact ih1 _ _ _ _ _
      | exact ih2 _ _ _ _ _
      | exact ih3 _ _ _ _ _ _ _
      | exact ih4 _ _ _
      | exact foghornref19_Generator.mono _ _
      | exact foghornref19_Times.mono _ _ _
      | exact LeO.none _
      | refine LeO.ite ?_ ?_
      | refine LeO.bind ?_ (fun _ => ?_)
def foghornref19_Encode.T16 : Bool × List (List Nat × List Nat) := (true, [([], []), ([], []), ([], []), ([1, 2], [1, 2]), ([], []), ([3, 4], [3, 4]), ([], []), ([], []), ([], []), ([7, 8], [7, 8]), ([], []), ([9, 10], [9, 10]), ([6, 11], [6, 11]), ([12], [12]), ([], []), ([], []), ([], []), ([15, 16], [15, 16]), ([17], [17]), ([14, 18], [14, 18]), ([13, 19], [13, 19]), ([0, 5, 0, 1, 2, 3, 4, 5, 6, 7, 8, 9, 10, 11, 12, 13, 14, 15, 16, 17, 18, 19, 20], [0, 5]), ([21, 20, 19, 0, 1, 2, 3, 4, 5, 6, 7, 8, 9, 10, 11, 12, 13, 14, 15, 16, 17, 18, 19, 20], [20, 21])])
def foghornref19_Encode.B16 : List Nat := [0, 0, 0, 6, 0, 30, 0, 0, 0, 384, 0, 1920, 4032, 8128, 0, 0, 0, 98304, 229376, 507904, 1048512, 2097151, 4194303]
theorem foghornref19_Encode.tab16 : rtab .any (opsOf Try.f24 16) = foghornref19_Encode.T16 := by kernel_rfl
theorem foghornref19_Encode.bits16 : waitsOk foghornref19_Encode.T16.2 foghornref19_Encode.B16 = true := by kernel_rfl

/-! ### foghornref19_At: function 69 -/
def foghornref19_At.l0 : Nat → ByteArray → Int → Int → Int → Int → Option (Int)
  | 0, _, _, _, _, _ => none
  | k + 1, x0, x1, x5, x6, x7 => if x7 ≥ 0 then (if 0 ≤ x7 then (if x7 < (x0.size : Int) then ((foghornref19_Times.f k (bt x0 x7) x6).bind fun t279 => ((foghornref19_Times.f k x6 x1).bind fun t280 => (foghornref19_At.l0 k x0 x1 (Go.bits .xor .u8 x5 t279) t280 (wrap64 (x7 - 1))))) else (none)) else (none)) else (some x5)
def foghornref19_At.f (k : Nat) (a0 : ByteArray) (a1 : Int) : Option (Int) := foghornref19_At.l0 k a0 a1 0 1 (wrap64 ((a0.size : Int) - 1))
theorem foghornref19_At.mono_l : ∀ k, (∀ y0 y1 y2 y3 y4, LeO (foghornref19_At.l0 k y0 y1 y2 y3 y4) (foghornref19_At.l0 (k + 1) y0 y1 y2 y3 y4))
  | 0 => fun _ _ _ _ _ r h => by simp [foghornref19_At.l0] at h
  | k + 1 => by
    have ih0 := foghornref19_At.mono_l k
    · intro y0 y1 y2 y3 y4
      unfold foghornref19_At.l0
      repeat' first
      | (with_reducible exact ih0 _ _ _ _ _)
      | (with_reducible exact foghornref19_Times.mono _ _ _)
      | (with_reducible exact LeO.refl _)
      | (with_reducible exact LeO.none _)
      | (with_reducible refine LeO.ite ?_ ?_)
      | (with_reducible refine LeO.bind ?_ (fun _ => ?_))
      | exact ih0 _ _ _ _ _
      | exact foghornref19_Times.mono _ _ _
      | exact LeO.none _
      | refine LeO.ite ?_ ?_
      | refine LeO.bind ?_ (fun _ => ?_)
theorem foghornref19_At.mono : ∀ a0 a1 k, LeO (foghornref19_At.f k a0 a1) (foghornref19_At.f (k + 1) a0 a1) := by
  intro a0 a1 k
  have ih0 := foghornref19_At.mono_l k
  unfold foghornref19_At.f
  repeat' first
      | (with_reducible exact ih0 _ _ _ _ _)
      | (with_reducible exact foghornref19_Times.mono _ _ _)
      | (with_reducible exact LeO.refl _)
      | (with_reducible exact LeO.none _)
      | (with_reducible refine LeO.ite ?_ ?_)
      | (with_reducible refine LeO.bind ?_ (fun _ => ?_))
      | exact ih0 _ _ _ _ _
      | exact foghornref19_Times.mono _ _ _
      | exact LeO.none _
      | refine LeO.ite ?_ ?_
      | refine LeO.bind ?_ (fun _ => ?_)

/-! ### foghornref19_Syndromes: function 25 -/
def foghornref19_Syndromes.l0 : Nat → ByteArray → Int → List Int → Int → Option (List Int × Int)
  | 0, _, _, _, _ => none
  | k + 1, x0, x1, x6, x7 => if x7 < x1 then ((foghornref19_Power.f k x7).bind fun t282 => ((foghornref19_At.f k x0 t282).bind fun t283 => (if x6.length < 140737488355328 then (foghornref19_Syndromes.l0 k x0 x1 (x6 ++ [t283]) (wrap64 (x7 + 1))) else (none)))) else (some (x6, 0))
def foghornref19_Syndromes.f (k : Nat) (a0 : ByteArray) (a1 : Int) : Option (List Int × Int) := (foghornref19_Check.f (a0.size : Int) a1).bind fun t281 => (if t281 = 0 then (foghornref19_Syndromes.l0 k a0 a1 ([] : List Int) 0) else (some (([] : List Int), 1)))
theorem foghornref19_Syndromes.mono_l : ∀ k, (∀ y0 y1 y2 y3, LeO (foghornref19_Syndromes.l0 k y0 y1 y2 y3) (foghornref19_Syndromes.l0 (k + 1) y0 y1 y2 y3))
  | 0 => fun _ _ _ _ r h => by simp [foghornref19_Syndromes.l0] at h
  | k + 1 => by
    have ih0 := foghornref19_Syndromes.mono_l k
    · intro y0 y1 y2 y3
      unfold foghornref19_Syndromes.l0
      repeat' first
      | (with_reducible exact ih0 _ _ _ _)
      | (with_reducible exact foghornref19_At.mono _ _ _)
      | (with_reducible exact foghornref19_Power.mono _ _)
      | (with_reducible exact LeO.refl _)
      | (with_reducible exact LeO.none _)
      | (with_reducible refine LeO.ite ?_ ?_)
      | (with_reducible refine LeO.bind ?_ (fun _ => ?_))
      | exact ih0 _ _ _ _
      | exact foghornref19_At.mono _ _ _
      | exact foghornref19_Power.mono _ _
      | exact LeO.none _
      | refine LeO.ite ?_ ?_
      | refine LeO.bind ?_ (fun _ => ?_)
theorem foghornref19_Syndromes.mono : ∀ a0 a1 k, LeO (foghornref19_Syndromes.f k a0 a1) (foghornref19_Syndromes.f (k + 1) a0 a1) := by
  intro a0 a1 k
  have ih0 := foghornref19_Syndromes.mono_l k
  unfold foghornref19_Syndromes.f
  repeat' first
      | (with_reducible exact ih0 _ _ _ _)
      | (with_reducible exact foghornref19_At.mono _ _ _)
      | (with_reducible exact foghornref19_Power.mono _ _)
      | (with_reducible exact LeO.refl _)
      | (with_reducible exact LeO.none _)
      | (with_reducible refine LeO.ite ?_ ?_)
      | (with_reducible refine LeO.bind ?_ (fun _ => ?_))
      | exact ih0 _ _ _ _
      | exact foghornref19_At.mono _ _ _
      | exact foghornref19_Power.mono _ _
      | exact LeO.none _
      | refine LeO.ite ?_ ?_
      | refine LeO.bind ?_ (fun _ => ?_)

/-! ### foghornref19_Whole: function 26 -/
def foghornref19_Whole.l0 : Nat → List Int → Int → Option (Bool × Int)
  | 0, _, _ => none
  | k + 1, x6, x8 => if x8 < (x6.length : Int) then (if 0 ≤ x8 then (if (rd x6 x8) = 0 then (foghornref19_Whole.l0 k x6 (wrap64 (x8 + 1))) else (some (false, 0))) else (none)) else (some (true, 0))
def foghornref19_Whole.f (k : Nat) (a0 : ByteArray) (a1 : Int) : Option (Bool × Int) := (foghornref19_Syndromes.f k a0 a1).bind fun bt287 => (if bt287.2 = 0 then (foghornref19_Whole.l0 k bt287.1 0) else (some (false, bt287.2)))
theorem foghornref19_Whole.mono_l : ∀ k, (∀ y0 y1, LeO (foghornref19_Whole.l0 k y0 y1) (foghornref19_Whole.l0 (k + 1) y0 y1))
  | 0 => fun _ _ r h => by simp [foghornref19_Whole.l0] at h
  | k + 1 => by
    have ih0 := foghornref19_Whole.mono_l k
    · intro y0 y1
      unfold foghornref19_Whole.l0
      repeat' first
      | (with_reducible exact ih0 _ _)
      | (with_reducible exact foghornref19_Syndromes.mono _ _ _)
      | (with_reducible exact LeO.refl _)
      | (with_reducible exact LeO.none _)
      | (with_reducible refine LeO.ite ?_ ?_)
      | (with_reducible refine LeO.bind ?_ (fun _ => ?_))
      | exact ih0 _ _
      | exact foghornref19_Syndromes.mono _ _ _
      | exact LeO.none _
      | refine LeO.ite ?_ ?_
      | refine LeO.bind ?_ (fun _ => ?_)
theorem foghornref19_Whole.mono : ∀ a0 a1 k, LeO (foghornref19_Whole.f k a0 a1) (foghornref19_Whole.f (k + 1) a0 a1) := by
  intro a0 a1 k
  have ih0 := foghornref19_Whole.mono_l k
  unfold foghornref19_Whole.f
  repeat' first
      | (with_reducible exact ih0 _ _)
      | (with_reducible exact foghornref19_Syndromes.mono _ _ _)
      | (with_reducible exact LeO.refl _)
      | (with_reducible exact LeO.none _)
      | (with_reducible refine LeO.ite ?_ ?_)
      | (with_reducible refine LeO.bind ?_ (fun _ => ?_))
      | exact ih0 _ _
      | exact foghornref19_Syndromes.mono _ _ _
      | exact LeO.none _
      | refine LeO.ite ?_ ?_
      | refine LeO.bind ?_ (fun _ => ?_)

/-! ### reed_Data: function 27 -/
def reed_Data.f (k : Nat) (a0 : ByteArray) (a1 : Int) : Option (ByteArray × Int) := (reed_Whole.f k a0 a1).bind fun bt292 => (if bt292.2 = 0 then (if bt292.1 = true then (if 0 ≤ (wrap64 ((a0.size : Int) - a1)) then (if (wrap64 ((a0.size : Int) - a1)) ≤ (a0.size : Int) then (some (a0.extract 0 ((wrap64 ((a0.size : Int) - a1)) : Int).toNat, 0)) else (none)) else (none)) else (some ((⟨#[]⟩ : ByteArray), 6))) else (some ((⟨#[]⟩ : ByteArray), bt292.2)))
theorem reed_Data.mono : ∀ a0 a1 k, LeO (reed_Data.f k a0 a1) (reed_Data.f (k + 1) a0 a1) := by
  intro a0 a1 k
  unfold reed_Data.f
  repeat' first
      | (with_reducible exact reed_Whole.mono _ _ _)
      | (with_reducible exact LeO.refl _)
      | (with_reducible exact LeO.none _)
      | (with_reducible refine LeO.ite ?_ ?_)
      | (with_reducible refine LeO.bind ?_ (fun _ => ?_))
      | exact reed_Whole.mono _ _ _
      | exact LeO.none _
      | refine LeO.ite ?_ ?_
      | refine LeO.bind ?_ (fun _ => ?_)

/-! ### foghornref19_Data: function 28 -/
def foghornref19_Data.f (k : Nat) (a0 : ByteArray) (a1 : Int) : Option (ByteArray × Int) := (foghornref19_Whole.f k a0 a1).bind fun bt294 => (if bt294.2 = 0 then (if bt294.1 = true then (if 0 ≤ (wrap64 ((a0.size : Int) - a1)) then (if (wrap64 ((a0.size : Int) - a1)) ≤ (a0.size : Int) then (some (a0.extract 0 ((wrap64 ((a0.size : Int) - a1)) : Int).toNat, 0)) else (none)) else (none)) else (some ((⟨#[]⟩ : ByteArray), 6))) else (some ((⟨#[]⟩ : ByteArray), bt294.2)))
theorem foghornref19_Data.mono : ∀ a0 a1 k, LeO (foghornref19_Data.f k a0 a1) (foghornref19_Data.f (k + 1) a0 a1) := by
  intro a0 a1 k
  unfold foghornref19_Data.f
  repeat' first
      | (with_reducible exact foghornref19_Whole.mono _ _ _)
      | (with_reducible exact LeO.refl _)
      | (with_reducible exact LeO.none _)
      | (with_reducible refine LeO.ite ?_ ?_)
      | (with_reducible refine LeO.bind ?_ (fun _ => ?_))
      | exact foghornref19_Whole.mono _ _ _
      | exact LeO.none _
      | refine LeO.ite ?_ ?_
      | refine LeO.bind ?_ (fun _ => ?_)

/-! ### foghornlaw19_sameBytes: function 29 -/
def foghornlaw19_sameBytes.l0 : Nat → List Int → List Int → Int → Option (Bool)
  | 0, _, _, _ => none
  | k + 1, x0, x1, x5 => if x5 < (x0.length : Int) then (if 0 ≤ x5 then (if x5 < (x1.length : Int) then (if (rd x0 x5) = (rd x1 x5) then (foghornlaw19_sameBytes.l0 k x0 x1 (wrap64 (x5 + 1))) else (some false)) else (none)) else (none)) else (some true)
def foghornlaw19_sameBytes.f (k : Nat) (l0 : List Int) (l1 : List Int) : Option (Bool) := if (l0.length : Int) = (l1.length : Int) then (foghornlaw19_sameBytes.l0 k l0 l1 0) else (some false)
theorem foghornlaw19_sameBytes.mono_l : ∀ k, (∀ y0 y1 y2, LeO (foghornlaw19_sameBytes.l0 k y0 y1 y2) (foghornlaw19_sameBytes.l0 (k + 1) y0 y1 y2))
  | 0 => fun _ _ _ r h => by simp [foghornlaw19_sameBytes.l0] at h
  | k + 1 => by
    have ih0 := foghornlaw19_sameBytes.mono_l k
    · intro y0 y1 y2
      unfold foghornlaw19_sameBytes.l0
      repeat' first
      | (with_reducible exact ih0 _ _ _)
      | (with_reducible exact LeO.refl _)
      | (with_reducible exact LeO.none _)
      | (with_reducible refine LeO.ite ?_ ?_)
      | (with_reducible refine LeO.bind ?_ (fun _ => ?_))
      | exact ih0 _ _ _
      | exact LeO.none _
      | refine LeO.ite ?_ ?_
      | refine LeO.bind ?_ (fun _ => ?_)
theorem foghornlaw19_sameBytes.mono : ∀ a0 a1 k, LeO (foghornlaw19_sameBytes.f k a0 a1) (foghornlaw19_sameBytes.f (k + 1) a0 a1) := by
  intro a0 a1 k
  have ih0 := foghornlaw19_sameBytes.mono_l k
  unfold foghornlaw19_sameBytes.f
  repeat' first
      | (with_reducible exact ih0 _ _ _)
      | (with_reducible exact LeO.refl _)
      | (with_reducible exact LeO.none _)
      | (with_reducible refine LeO.ite ?_ ?_)
      | (with_reducible refine LeO.bind ?_ (fun _ => ?_))
      | exact ih0 _ _ _
      | exact LeO.none _
      | refine LeO.ite ?_ ?_
      | refine LeO.bind ?_ (fun _ => ?_)

/-! ### foghornref19_Apart: function 30 -/
def foghornref19_Apart.l0 : Nat → ByteArray → ByteArray → Int → Int → Option (Int × Int)
  | 0, _, _, _, _ => none
  | k + 1, x0, x1, x6, x7 => if x7 < (x0.size : Int) then (if 0 ≤ x7 then (if x7 < (x1.size : Int) then (if (bt x0 x7) = (bt x1 x7) then (foghornref19_Apart.l0 k x0 x1 x6 (wrap64 (x7 + 1))) else (foghornref19_Apart.l0 k x0 x1 (wrap64 (x6 + 1)) (wrap64 (x7 + 1)))) else (none)) else (none)) else (some (x6, 0))
def foghornref19_Apart.f (k : Nat) (a0 : ByteArray) (a1 : ByteArray) : Option (Int × Int) := if (a0.size : Int) = (a1.size : Int) then (foghornref19_Apart.l0 k a0 a1 0 0) else (some (0, 1))
theorem foghornref19_Apart.mono_l : ∀ k, (∀ y0 y1 y2 y3, LeO (foghornref19_Apart.l0 k y0 y1 y2 y3) (foghornref19_Apart.l0 (k + 1) y0 y1 y2 y3))
  | 0 => fun _ _ _ _ r h => by simp [foghornref19_Apart.l0] at h
  | k + 1 => by
    have ih0 := foghornref19_Apart.mono_l k
    · intro y0 y1 y2 y3
      unfold foghornref19_Apart.l0
      repeat' first
      | (with_reducible exact ih0 _ _ _ _)
      | (with_reducible exact LeO.refl _)
      | (with_reducible exact LeO.none _)
      | (with_reducible refine LeO.ite ?_ ?_)
      | (with_reducible refine LeO.bind ?_ (fun _ => ?_))
      | exact ih0 _ _ _ _
      | exact LeO.none _
      | refine LeO.ite ?_ ?_
      | refine LeO.bind ?_ (fun _ => ?_)
theorem foghornref19_Apart.mono : ∀ a0 a1 k, LeO (foghornref19_Apart.f k a0 a1) (foghornref19_Apart.f (k + 1) a0 a1) := by
  intro a0 a1 k
  have ih0 := foghornref19_Apart.mono_l k
  unfold foghornref19_Apart.f
  repeat' first
      | (with_reducible exact ih0 _ _ _ _)
      | (with_reducible exact LeO.refl _)
      | (with_reducible exact LeO.none _)
      | (with_reducible refine LeO.ite ?_ ?_)
      | (with_reducible refine LeO.bind ?_ (fun _ => ?_))
      | exact ih0 _ _ _ _
      | exact LeO.none _
      | refine LeO.ite ?_ ?_
      | refine LeO.bind ?_ (fun _ => ?_)

/-! ### foghornlaw19_ReedWords: function 6 -/
mutual
def foghornlaw19_ReedWords.j0 : Nat → ByteArray → ByteArray → Int → List Int → List Int → Bool → Option (Bool)
  | 0, _, _, _, _, _, _ => none
  | k + 1, x1, x2, x3, x13, x15, x116 => if x116 = true then (some false) else ((reed_Apart.f k x1 x2).bind fun bt319 => ((foghornref19_Apart.f k x1 x2).bind fun bt321 => (foghornlaw19_ReedWords.l0 k x1 x3 bt319.2 bt321.2 x13 x15 bt319.1 bt321.1 0)))
def foghornlaw19_ReedWords.l0 : Nat → ByteArray → Int → Int → Int → List Int → List Int → Int → Int → Int → Option (Bool)
  | 0, _, _, _, _, _, _, _, _, _ => none
  | k + 1, x1, x3, x10, x12, x13, x15, x25, x26, x27 => if x27 < (x13.length : Int) then (if 0 ≤ x27 then (foghornlaw19_ReedWords.l0 k x1 x3 x10 x12 (x13.set (x27 : Int).toNat (((rd x13 x27) + 1) % 256)) x15 x25 x26 (wrap64 (x27 + 1))) else (none)) else ((reed_Syndromes.f k x1 x3).bind fun bt325 => (if x25 = x26 then (if x10 = x12 then ((foghornlaw19_sameBytes.f k bt325.1 x15).bind fun t329 => (some t329)) else (some false)) else (some false)))
end
def foghornlaw19_ReedWords.f (k : Nat) (a0 : ByteArray) (a1 : ByteArray) (a2 : ByteArray) (a3 : Int) : Option (Bool) := (reed_Encode.f k a0 a3).bind fun bt298 => ((foghornref19_Encode.f k a0 a3).bind fun bt300 => ((reed_Syndromes.f k a1 a3).bind fun bt302 => ((foghornref19_Syndromes.f k a1 a3).bind fun bt306 => ((reed_Whole.f k a1 a3).bind fun bt310 => ((foghornref19_Whole.f k a1 a3).bind fun bt312 => ((reed_Data.f k a1 a3).bind fun bt314 => ((foghornref19_Data.f k a1 a3).bind fun bt316 => (if bt298.1.toList = bt300.1.toList then (if bt298.2 = bt300.2 then ((foghornlaw19_sameBytes.f k bt302.1 bt306.1).bind fun t318 => (if t318 = true then (if bt302.2 = bt306.2 then (if (bt310.1 != bt312.1) = true then (foghornlaw19_ReedWords.j0 k a1 a2 a3 bt302.1 bt306.1 true) else (if bt310.2 = bt312.2 then (if bt314.1.toList = bt316.1.toList then (foghornlaw19_ReedWords.j0 k a1 a2 a3 bt302.1 bt306.1 (bt314.2 != bt316.2)) else (foghornlaw19_ReedWords.j0 k a1 a2 a3 bt302.1 bt306.1 true)) else (foghornlaw19_ReedWords.j0 k a1 a2 a3 bt302.1 bt306.1 true))) else (foghornlaw19_ReedWords.j0 k a1 a2 a3 bt302.1 bt306.1 true)) else (foghornlaw19_ReedWords.j0 k a1 a2 a3 bt302.1 bt306.1 true))) else (foghornlaw19_ReedWords.j0 k a1 a2 a3 bt302.1 bt306.1 true)) else (foghornlaw19_ReedWords.j0 k a1 a2 a3 bt302.1 bt306.1 true)))))))))
theorem foghornlaw19_ReedWords.mono_l : ∀ k, (∀ y0 y1 y2 y3 y4 y5, LeO (foghornlaw19_ReedWords.j0 k y0 y1 y2 y3 y4 y5) (foghornlaw19_ReedWords.j0 (k + 1) y0 y1 y2 y3 y4 y5)) ∧ (∀ y0 y1 y2 y3 y4 y5 y6 y7 y8, LeO (foghornlaw19_ReedWords.l0 k y0 y1 y2 y3 y4 y5 y6 y7 y8) (foghornlaw19_ReedWords.l0 (k + 1) y0 y1 y2 y3 y4 y5 y6 y7 y8))
  | 0 => ⟨fun _ _ _ _ _ _ r h => by simp [foghornlaw19_ReedWords.j0] at h, fun _ _ _ _ _ _ _ _ _ r h => by simp [foghornlaw19_ReedWords.l0] at h⟩
  | k + 1 => by
    obtain ⟨ih0, ih1⟩ := foghornlaw19_ReedWords.mono_l k
    refine ⟨?_, ?_⟩
    · intro y0 y1 y2 y3 y4 y5
      unfold foghornlaw19_ReedWords.j0
      repeat' first
      | (with_reducible exact ih0 _ _ _ _ _ _)
      | (with_reducible exact ih1 _ _ _ _ _ _ _ _ _)
      | (with_reducible exact foghornlaw19_sameBytes.mono _ _ _)
      | (with_reducible exact foghornref19_Apart.mono _ _ _)
      | (with_reducible exact foghornref19_Data.mono _ _ _)
      | (with_reducible exact foghornref19_Encode.mono _ _ _)
      | (with_reducible exact foghornref19_Syndromes.mono _ _ _)
      | (with_reducible exact foghornref19_Whole.mono _ _ _)
      | (with_reducible exact reed_Apart.mono _ _ _)
      | (with_reducible exact reed_Data.mono _ _ _)
      | (with_reducible exact reed_Encode.mono _ _ _)
      | (with_reducible exact reed_Syndromes.mono _ _ _)
      | (with_reducible exact reed_Whole.mono _ _ _)
      | (with_reducible exact LeO.refl _)
      | (with_reducible exact LeO.none _)
      | (with_reducible refine LeO.ite ?_ ?_)
      | (with_reducible refine LeO.bind ?_ (fun _ => ?_))
      | exact ih0 _ _ _ _ _ _
      | exact ih1 _ _ _ _ _ _ _ _ _
      | exact foghornlaw19_sameBytes.mono _ _ _
      | exact foghornref19_Apart.mono _ _ _
      | exact foghornref19_Data.mono _ _ _
      | exact foghornref19_Encode.mono _ _ _
      | exact foghornref19_Syndromes.mono _ _ _
      | exact foghornref19_Whole.mono _ _ _
      | exact reed_Apart.mono _ _ _
      | exact reed_Data.mono _ _ _
      | exact reed_Encode.mono _ _ _
      | exact reed_Syndromes.mono _ _ _
      | exact reed_Whole.mono _ _ _
      | exact LeO.none _
      | refine LeO.ite ?_ ?_
      | refine LeO.bind ?_ (fun _ => ?_)
    · intro y0 y1 y2 y3 y4 y5 y6 y7 y8
      unfold foghornlaw19_ReedWords.l0
      repeat' first
      | (with_reducible exact ih0 _ _ _ _ _ _)
      | (with_reducible exact ih1 _ _ _ _ _ _ _ _ _)
      | (with_reducible exact foghornlaw19_sameBytes.mono _ _ _)
      | (with_reducible exact foghornref19_Apart.mono _ _ _)
      | (with_reducible exact foghornref19_Data.mono _ _ _)
      | (with_reducible exact foghornref19_Encode.mono _ _ _)
      | (with_reducible exact foghornref19_Syndromes.mono _ _ _)
      | (with_reducible exact foghornref19_Whole.mono _ _ _)
      | (with_reducible exact reed_Apart.mono _ _ _)
      | (with_reducible exact reed_Data.mono _ _ _)
      | (with_reducible exact reed_Encode.mono _ _ _)
      | (with_reducible exact reed_Syndromes.mono _ _ _)
      | (with_reducible exact reed_Whole.mono _ _ _)
      | (with_reducible exact LeO.refl _)
      | (with_reducible exact LeO.none _)
      | (with_reducible refine LeO.ite ?_ ?_)
      | (with_reducible refine LeO.bind ?_ (fun _ => ?_))
      | exact ih0 _ _ _ _ _ _
      | exact ih1 _ _ _ _ _ _ _ _ _
      | exact foghornlaw19_sameBytes.mono _ _ _
      | exact foghornref19_Apart.mono _ _ _
      | exact foghornref19_Data.mono _ _ _
      | exact foghornref19_Encode.mono _ _ _
      | exact foghornref19_Syndromes.mono _ _ _
      | exact foghornref19_Whole.mono _ _ _
      | exact reed_Apart.mono _ _ _
      | exact reed_Data.mono _ _ _
      | exact reed_Encode.mono _ _ _
      | exact reed_Syndromes.mono _ _ _
      | exact reed_Whole.mono _ _ _
      | exact LeO.none _
      | refine LeO.ite ?_ ?_
      | refine LeO.bind ?_ (fun _ => ?_)
theorem foghornlaw19_ReedWords.mono : ∀ a0 a1 a2 a3 k, LeO (foghornlaw19_ReedWords.f k a0 a1 a2 a3) (foghornlaw19_ReedWords.f (k + 1) a0 a1 a2 a3) := by
  intro a0 a1 a2 a3 k
  obtain ⟨ih0, ih1⟩ := foghornlaw19_ReedWords.mono_l k
  unfold foghornlaw19_ReedWords.f
  repeat' first
      | (with_reducible exact ih0 _ _ _ _ _ _)
      | (with_reducible exact ih1 _ _ _ _ _ _ _ _ _)
      | (with_reducible exact foghornlaw19_sameBytes.mono _ _ _)
      | (with_reducible exact foghornref19_Apart.mono _ _ _)
      | (with_reducible exact foghornref19_Data.mono _ _ _)
      | (with_reducible exact foghornref19_Encode.mono _ _ _)
      | (with_reducible exact foghornref19_Syndromes.mono _ _ _)
      | (with_reducible exact foghornref19_Whole.mono _ _ _)
      | (with_reducible exact reed_Apart.mono _ _ _)
      | (with_reducible exact reed_Data.mono _ _ _)
      | (with_reducible exact reed_Encode.mono _ _ _)
      | (with_reducible exact reed_Syndromes.mono _ _ _)
      | (with_reducible exact reed_Whole.mono _ _ _)
      | (with_reducible exact LeO.refl _)
      | (with_reducible exact LeO.none _)
      | (with_reducible refine LeO.ite ?_ ?_)
      | (with_reducible refine LeO.bind ?_ (fun _ => ?_))
      | exact ih0 _ _ _ _ _ _
      | exact ih1 _ _ _ _ _ _ _ _ _
      | exact foghornlaw19_sameBytes.mono _ _ _
      | exact foghornref19_Apart.mono _ _ _
      | exact foghornref19_Data.mono _ _ _
      | exact foghornref19_Encode.mono _ _ _
      | exact foghornref19_Syndromes.mono _ _ _
      | exact foghornref19_Whole.mono _ _ _
      | exact reed_Apart.mono _ _ _
      | exact reed_Data.mono _ _ _
      | exact reed_Encode.mono _ _ _
      | exact reed_Syndromes.mono _ _ _
      | exact reed_Whole.mono _ _ _
      | exact LeO.none _
      | refine LeO.ite ?_ ?_
      | refine LeO.bind ?_ (fun _ => ?_)
/-- THE ONE PURE STATEMENT of foghornlaw19_ReedWords: yours. -/
def foghornlaw19_ReedWords.Pure : Prop := ∀ (a0 : ByteArray) (a1 : ByteArray) (a2 : ByteArray) (a3 : Int), a0.size ≤ 140737488351232 → a1.size ≤ 140737488351232 → a2.size ≤ 140737488351232 → (Lit.int .i64 a3).wf = true → ∃ k, foghornlaw19_ReedWords.f k a0 a1 a2 a3 = some true

/-! ### reed_Words: function 31 -/
mutual
def reed_Words.j0 : Nat → ByteArray → Int → Int → Bool → Option (List ByteArray × Int)
  | 0, _, _, _, _ => none
  | k + 1, x0, x1, x2, x20 => if x20 = true then (some (([] : List ByteArray), 1)) else (reed_Words.l0 k x0 x1 x2 ([] : List ByteArray))
def reed_Words.l0 : Nat → ByteArray → Int → Int → List ByteArray → Option (List ByteArray × Int)
  | 0, _, _, _, _ => none
  | k + 1, x0, x1, x2, x8 => if x0.toList = ([] : List UInt8) then (some (x8, 0)) else (if 0 ≤ (mn (wrap64 (x1 - x2)) (x0.size : Int)) then (if (mn (wrap64 (x1 - x2)) (x0.size : Int)) ≤ (x0.size : Int) then ((reed_Encode.f k (x0.extract 0 ((mn (wrap64 (x1 - x2)) (x0.size : Int)) : Int).toNat) x2).bind fun bt331 => (if x8.length < 8796093022208 then (reed_Words.l0 k (x0.extract ((mn (wrap64 (x1 - x2)) (x0.size : Int)) : Int).toNat x0.size) x1 x2 (x8 ++ [bt331.1])) else (none))) else (none)) else (none))
end
def reed_Words.f (k : Nat) (a0 : ByteArray) (a1 : Int) (a2 : Int) : Option (List ByteArray × Int) := (reed_Check.f a1 a2).bind fun t330 => (if t330 = 0 then (reed_Words.j0 k a0 a1 a2 (decide ((a0.size : Int) > 32768))) else (reed_Words.j0 k a0 a1 a2 true))
theorem reed_Words.mono_l : ∀ k, (∀ y0 y1 y2 y3, LeO (reed_Words.j0 k y0 y1 y2 y3) (reed_Words.j0 (k + 1) y0 y1 y2 y3)) ∧ (∀ y0 y1 y2 y3, LeO (reed_Words.l0 k y0 y1 y2 y3) (reed_Words.l0 (k + 1) y0 y1 y2 y3))
  | 0 => ⟨fun _ _ _ _ r h => by simp [reed_Words.j0] at h, fun _ _ _ _ r h => by simp [reed_Words.l0] at h⟩
  | k + 1 => by
    obtain ⟨ih0, ih1⟩ := reed_Words.mono_l k
    refine ⟨?_, ?_⟩
    · intro y0 y1 y2 y3
      unfold reed_Words.j0
      repeat' first
      | (with_reducible exact ih0 _ _ _ _)
      | (with_reducible exact ih1 _ _ _ _)
      | (with_reducible exact reed_Encode.mono _ _ _)
      | (with_reducible exact LeO.refl _)
      | (with_reducible exact LeO.none _)
      | (with_reducible refine LeO.ite ?_ ?_)
      | (with_reducible refine LeO.bind ?_ (fun _ => ?_))
      | exact ih0 _ _ _ _
      | exact ih1 _ _ _ _
      | exact reed_Encode.mono _ _ _
      | exact LeO.none _
      | refine LeO.ite ?_ ?_
      | refine LeO.bind ?_ (fun _ => ?_)
    · intro y0 y1 y2 y3
      unfold reed_Words.l0
      repeat' first
      | (with_reducible exact ih0 _ _ _ _)
      | (with_reducible exact ih1 _ _ _ _)
      | (with_reducible exact reed_Encode.mono _ _ _)
      | (with_reducible exact LeO.refl _)
      | (with_reducible exact LeO.none _)
      | (with_reducible refine LeO.ite ?_ ?_)
      | (with_reducible refine LeO.bind ?_ (fun _ => ?_))
      | exact ih0 _ _ _ _
      | exact ih1 _ _ _ _
      | exact reed_Encode.mono _ _ _
      | exact LeO.none _
      | refine LeO.ite ?_ ?_
      | refine LeO.bind ?_ (fun _ => ?_)
theorem reed_Words.mono : ∀ a0 a1 a2 k, LeO (reed_Words.f k a0 a1 a2) (reed_Words.f (k + 1) a0 a1 a2) := by
  intro a0 a1 a2 k
  obtain ⟨ih0, ih1⟩ := reed_Words.mono_l k
  unfold reed_Words.f
  repeat' first
      | (with_reducible exact ih0 _ _ _ _)
      | (with_reducible exact ih1 _ _ _ _)
      | (with_reducible exact reed_Encode.mono _ _ _)
      | (with_reducible exact LeO.refl _)
      | (with_reducible exact LeO.none _)
      | (with_reducible refine LeO.ite ?_ ?_)
      | (with_reducible refine LeO.bind ?_ (fun _ => ?_))
      | exact ih0 _ _ _ _
      | exact ih1 _ _ _ _
      | exact reed_Encode.mono _ _ _
      | exact LeO.none _
      | refine LeO.ite ?_ ?_
      | refine LeO.bind ?_ (fun _ => ?_)
def reed_Words.T7 : Bool × List (List Nat × List Nat) := (true, [([], []), ([], []), ([1], [1]), ([0, 2], [0, 2]), ([], []), ([], []), ([4, 5], [4, 5]), ([3, 3, 0, 1, 2, 3], [0, 3]), ([6, 7, 0, 1, 2, 3, 4, 5, 6, 7], [4, 6])])
def reed_Words.B7 : List Nat := [0, 0, 2, 7, 0, 0, 48, 15, 255]
theorem reed_Words.tab7 : rtab .any (opsOf Try.f31 7) = reed_Words.T7 := by kernel_rfl
theorem reed_Words.bits7 : waitsOk reed_Words.T7.2 reed_Words.B7 = true := by kernel_rfl

/-! ### reed_Message: function 32 -/
/-- What a word adds to the sum, and what is told of it. -/
def msgSum (r sum : Int) (s : ByteArray) : Int := wrap64 (sum + wrap64 ((s.size : Int) - r))
def msgTold (t sum : Int) : Int := if t = 0 then (if sum > 32768 then 1 else 0) else 1
def msgRun {α : Type} (step : α → ByteArray → Option (α × Int)) : α → List ByteArray → Option (α × Int)
  | a, [] => some (a, 0)
  | a, s :: r => (step a s).bind fun q => if q.2 = 0 then msgRun step q.1 r else some q
def msgStep1 (r : Int) (sum : Int) (s : ByteArray) : Option (Int × Int) := (reed_Check.f (s.size : Int) r).map fun t => (msgSum r sum s, msgTold t (msgSum r sum s))
def msgStep2 (k : Nat) (r : Int) (bs : List UInt8) (s : ByteArray) : Option (List UInt8 × Int) := (reed_Data.f k s r).bind fun p => if bs.length + p.1.size ≤ 140737488355328 then some (bs ++ p.1.data.toList, p.2) else none
def reed_Message.f (k : Nat) (l0 : List ByteArray) (a1 : Int) : Option (ByteArray × Int) :=
  if l0.length ≤ 140737488355328 then (reed_checks.f a1).bind fun b => if b = true then ((msgRun (msgStep1 a1) 0 l0).bind fun q1 => if q1.2 = 0 then ((msgRun (msgStep2 k a1) [] l0).bind fun q2 => if q2.2 = 0 then some ((⟨q2.1.toArray⟩ : ByteArray), 0) else some ((⟨#[]⟩ : ByteArray), q2.2)) else some ((⟨#[]⟩ : ByteArray), q1.2)) else some ((⟨#[]⟩ : ByteArray), 1) else none
theorem msgRun_mono {α : Type} {f g : α → ByteArray → Option (α × Int)} (h : ∀ a s, LeO (f a s) (g a s)) : ∀ (l : List ByteArray) (a : α), LeO (msgRun f a l) (msgRun g a l)
  | [], _ => LeO.refl _
  | s :: l, a => by
    unfold msgRun
    refine LeO.bind (h a s) (fun q => ?_)
    exact LeO.ite (msgRun_mono h l q.1) (LeO.refl _)
theorem reed_Message.mono (l0 : List ByteArray) (a1 : Int) (k : Nat) : LeO (reed_Message.f k l0 a1) (reed_Message.f (k + 1) l0 a1) := by
  unfold reed_Message.f
  refine LeO.ite (LeO.bind (LeO.refl _) (fun b => LeO.ite (LeO.bind (LeO.refl _) (fun q => LeO.ite (LeO.bind (msgRun_mono (fun a s => ?_) l0 []) (fun q2 => LeO.refl _)) (LeO.refl _))) (LeO.refl _))) (LeO.refl _)
  unfold msgStep2
  exact LeO.bind (reed_Data.mono _ _ k) (fun p => LeO.refl _)

/-! ### foghornlaw19_ReedNames: function 7 -/
def foghornlaw19_ReedNames.f (k : Nat)  : Option (Bool) := (foghornlaw19_works.f k).bind fun t336 => (if t336 = true then (if 32769 ≤ 281474976710656 then ((some (List.replicate 32769 0 : List Int)).bind fun y337 => (if 0 ≤ 191 then (if 191 ≤ ((strOfNums y337).size : Int) then ((reed_Encode.f k ((strOfNums y337).extract 0 191) 64).bind fun bt340 => (if 0 ≤ 192 then (if 192 ≤ ((strOfNums y337).size : Int) then ((reed_Encode.f k ((strOfNums y337).extract 0 192) 64).bind fun bt342 => (if 0 ≤ 9 then (if 9 ≤ ((strOfNums y337).size : Int) then ((reed_Encode.f k ((strOfNums y337).extract 0 9) 66).bind fun bt344 => (if 0 ≤ 32768 then (if 32768 ≤ ((strOfNums y337).size : Int) then ((reed_Words.f k ((strOfNums y337).extract 0 32768) 255 64).bind fun bt346 => ((reed_Words.f k (strOfNums y337) 255 64).bind fun bt350 => ((reed_Message.f k bt346.1 64).bind fun bt354 => ((some (([] : List ByteArray) : List ByteArray)).bind fun y356 => (if y356.length + bt346.1.length < 8796093022208 then ((some (y356 ++ bt346.1 : List ByteArray)).bind fun y359 => (if 65 ≤ 281474976710656 then ((some (([strOfNums (List.replicate 65 0)] : List ByteArray) : List ByteArray)).bind fun y365 => (if y359.length + y365.length < 8796093022208 then ((reed_Message.f k (y359 ++ y365) 64).bind fun bt371 => ((reed_Generator.f k 64).bind fun bt373 => (if bt340.2 = 0 then (if bt342.2 = 1 then (if bt344.2 = 1 then (if bt346.2 = 0 then (if bt350.2 = 1 then (if bt354.2 = 0 then (if bt371.2 = 1 then (if bt373.2 = 0 then (if (bt340.1.size : Int) = 255 then (if (bt346.1.length : Int) = 172 then (if bt354.1.toList = ((strOfNums y337).extract 0 32768).toList then (if (bt373.1.length : Int) = 65 then (if 64 < (bt373.1.length : Int) then (if (rd bt373.1 64) = 1 then ((reed_Check.f 255 64).bind fun t378 => (if t378 = 0 then ((reed_Check.f 256 64).bind fun t379 => (if t379 = 1 then ((reed_Check.f 65 64).bind fun t380 => (if t380 = 0 then ((reed_Check.f 64 64).bind fun t381 => (if t381 = 1 then ((reed_Check.f 9 3).bind fun t382 => (some (t382 == 1))) else (some false))) else (some false))) else (some false))) else (some false))) else (some false)) else (none)) else (some false)) else (some false)) else (some false)) else (some false)) else (some false)) else (some false)) else (some false)) else (some false)) else (some false)) else (some false)) else (some false)) else (some false)))) else (none))) else (none))) else (none)))))) else (none)) else (none))) else (none)) else (none))) else (none)) else (none))) else (none)) else (none))) else (none)) else (some false))
theorem foghornlaw19_ReedNames.mono : ∀ k, LeO (foghornlaw19_ReedNames.f k ) (foghornlaw19_ReedNames.f (k + 1) ) := by
  intro  k
  unfold foghornlaw19_ReedNames.f
  repeat' first
      | (with_reducible exact foghornlaw19_works.mono _)
      | (with_reducible exact reed_Encode.mono _ _ _)
      | (with_reducible exact reed_Generator.mono _ _)
      | (with_reducible exact reed_Message.mono _ _ _)
      | (with_reducible exact reed_Words.mono _ _ _ _)
      | (with_reducible exact LeO.refl _)
      | (with_reducible exact LeO.none _)
      | (with_reducible refine LeO.ite ?_ ?_)
      | (with_reducible refine LeO.bind ?_ (fun _ => ?_))
      | exact foghornlaw19_works.mono _
      | exact reed_Encode.mono _ _ _
      | exact reed_Generator.mono _ _
      | exact reed_Message.mono _ _ _
      | exact reed_Words.mono _ _ _ _
      | exact LeO.none _
      | refine LeO.ite ?_ ?_
      | refine LeO.bind ?_ (fun _ => ?_)
def foghornlaw19_ReedNames.T10 : Bool × List (List Nat × List Nat) := (true, [([], []), ([], []), ([0, 1], [0, 1]), ([], []), ([3], [3]), ([4], [4]), ([2, 5, 2], [2, 5]), ([6, 6], [6]), ([7], [7]), ([8], [8]), ([8], [8]), ([9, 7, 0, 1, 2, 3, 4, 5, 6, 7, 8, 9], [9]), ([10, 11, 0, 1, 2, 3, 4, 5, 6, 7, 8, 9, 10, 11], [10])])
def foghornlaw19_ReedNames.B10 : List Nat := [0, 0, 3, 0, 8, 24, 63, 127, 255, 511, 511, 1023, 4095]
theorem foghornlaw19_ReedNames.tab10 : rtab .any (opsOf Try.f7 10) = foghornlaw19_ReedNames.T10 := by kernel_rfl
theorem foghornlaw19_ReedNames.bits10 : waitsOk foghornlaw19_ReedNames.T10.2 foghornlaw19_ReedNames.B10 = true := by kernel_rfl
/-- THE ONE PURE STATEMENT of foghornlaw19_ReedNames: yours. -/
def foghornlaw19_ReedNames.Pure : Prop := ∃ k, foghornlaw19_ReedNames.f k  = some true

/-! ### foghornref19_Words: function 35 -/
mutual
def foghornref19_Words.j0 : Nat → ByteArray → Int → Int → Bool → Option (List ByteArray × Int)
  | 0, _, _, _, _ => none
  | k + 1, x0, x1, x2, x20 => if x20 = true then (some (([] : List ByteArray), 1)) else (foghornref19_Words.l0 k x0 x1 x2 ([] : List ByteArray) 0)
def foghornref19_Words.l0 : Nat → ByteArray → Int → Int → List ByteArray → Int → Option (List ByteArray × Int)
  | 0, _, _, _, _, _ => none
  | k + 1, x0, x1, x2, x8, x9 => if x9 < (x0.size : Int) then (if 0 ≤ x9 then (if x9 ≤ (mn (x0.size : Int) (wrap64 ((wrap64 (x9 + x1)) - x2))) then (if (mn (x0.size : Int) (wrap64 ((wrap64 (x9 + x1)) - x2))) ≤ (x0.size : Int) then ((foghornref19_Encode.f k (x0.extract (x9 : Int).toNat ((mn (x0.size : Int) (wrap64 ((wrap64 (x9 + x1)) - x2))) : Int).toNat) x2).bind fun bt384 => (if x8.length < 8796093022208 then (foghornref19_Words.l0 k x0 x1 x2 (x8 ++ [bt384.1]) (wrap64 ((wrap64 (x9 + x1)) - x2))) else (none))) else (none)) else (none)) else (none)) else (some (x8, 0))
end
def foghornref19_Words.f (k : Nat) (a0 : ByteArray) (a1 : Int) (a2 : Int) : Option (List ByteArray × Int) := (foghornref19_Check.f a1 a2).bind fun t383 => (if t383 = 0 then (foghornref19_Words.j0 k a0 a1 a2 (decide ((a0.size : Int) > 32768))) else (foghornref19_Words.j0 k a0 a1 a2 true))
theorem foghornref19_Words.mono_l : ∀ k, (∀ y0 y1 y2 y3, LeO (foghornref19_Words.j0 k y0 y1 y2 y3) (foghornref19_Words.j0 (k + 1) y0 y1 y2 y3)) ∧ (∀ y0 y1 y2 y3 y4, LeO (foghornref19_Words.l0 k y0 y1 y2 y3 y4) (foghornref19_Words.l0 (k + 1) y0 y1 y2 y3 y4))
  | 0 => ⟨fun _ _ _ _ r h => by simp [foghornref19_Words.j0] at h, fun _ _ _ _ _ r h => by simp [foghornref19_Words.l0] at h⟩
  | k + 1 => by
    obtain ⟨ih0, ih1⟩ := foghornref19_Words.mono_l k
    refine ⟨?_, ?_⟩
    · intro y0 y1 y2 y3
      unfold foghornref19_Words.j0
      repeat' first
      | (with_reducible exact ih0 _ _ _ _)
      | (with_reducible exact ih1 _ _ _ _ _)
      | (with_reducible exact foghornref19_Encode.mono _ _ _)
      | (with_reducible exact LeO.refl _)
      | (with_reducible exact LeO.none _)
      | (with_reducible refine LeO.ite ?_ ?_)
      | (with_reducible refine LeO.bind ?_ (fun _ => ?_))
      | exact ih0 _ _ _ _
      | exact ih1 _ _ _ _ _
      | exact foghornref19_Encode.mono _ _ _
      | exact LeO.none _
      | refine LeO.ite ?_ ?_
      | refine LeO.bind ?_ (fun _ => ?_)
    · intro y0 y1 y2 y3 y4
      unfold foghornref19_Words.l0
      repeat' first
      | (with_reducible exact ih0 _ _ _ _)
      | (with_reducible exact ih1 _ _ _ _ _)
      | (with_reducible exact foghornref19_Encode.mono _ _ _)
      | (with_reducible exact LeO.refl _)
      | (with_reducible exact LeO.none _)
      | (with_reducible refine LeO.ite ?_ ?_)
      | (with_reducible refine LeO.bind ?_ (fun _ => ?_))
      | exact ih0 _ _ _ _
      | exact ih1 _ _ _ _ _
      | exact foghornref19_Encode.mono _ _ _
      | exact LeO.none _
      | refine LeO.ite ?_ ?_
      | refine LeO.bind ?_ (fun _ => ?_)
theorem foghornref19_Words.mono : ∀ a0 a1 a2 k, LeO (foghornref19_Words.f k a0 a1 a2) (foghornref19_Words.f (k + 1) a0 a1 a2) := by
  intro a0 a1 a2 k
  obtain ⟨ih0, ih1⟩ := foghornref19_Words.mono_l k
  unfold foghornref19_Words.f
  repeat' first
      | (with_reducible exact ih0 _ _ _ _)
      | (with_reducible exact ih1 _ _ _ _ _)
      | (with_reducible exact foghornref19_Encode.mono _ _ _)
      | (with_reducible exact LeO.refl _)
      | (with_reducible exact LeO.none _)
      | (with_reducible refine LeO.ite ?_ ?_)
      | (with_reducible refine LeO.bind ?_ (fun _ => ?_))
      | exact ih0 _ _ _ _
      | exact ih1 _ _ _ _ _
      | exact foghornref19_Encode.mono _ _ _
      | exact LeO.none _
      | refine LeO.ite ?_ ?_
      | refine LeO.bind ?_ (fun _ => ?_)

/-! ### foghornlaw19_sameTexts: function 37 -/
def foghornlaw19_sameTexts.l0 : Nat → List ByteArray → List ByteArray → Int → Option (Bool)
  | 0, _, _, _ => none
  | k + 1, x0, x1, x5 => if x5 < (x0.length : Int) then (if 0 ≤ x5 then (if x5 < (x1.length : Int) then (if (rdOf ByteArray.empty x0 x5).toList = (rdOf ByteArray.empty x1 x5).toList then (foghornlaw19_sameTexts.l0 k x0 x1 (wrap64 (x5 + 1))) else (some false)) else (none)) else (none)) else (some true)
def foghornlaw19_sameTexts.f (k : Nat) (l0 : List ByteArray) (l1 : List ByteArray) : Option (Bool) := if (l0.length : Int) = (l1.length : Int) then (foghornlaw19_sameTexts.l0 k l0 l1 0) else (some false)
theorem foghornlaw19_sameTexts.mono_l : ∀ k, (∀ y0 y1 y2, LeO (foghornlaw19_sameTexts.l0 k y0 y1 y2) (foghornlaw19_sameTexts.l0 (k + 1) y0 y1 y2))
  | 0 => fun _ _ _ r h => by simp [foghornlaw19_sameTexts.l0] at h
  | k + 1 => by
    have ih0 := foghornlaw19_sameTexts.mono_l k
    · intro y0 y1 y2
      unfold foghornlaw19_sameTexts.l0
      repeat' first
      | (with_reducible exact ih0 _ _ _)
      | (with_reducible exact LeO.refl _)
      | (with_reducible exact LeO.none _)
      | (with_reducible refine LeO.ite ?_ ?_)
      | (with_reducible refine LeO.bind ?_ (fun _ => ?_))
      | exact ih0 _ _ _
      | exact LeO.none _
      | refine LeO.ite ?_ ?_
      | refine LeO.bind ?_ (fun _ => ?_)
theorem foghornlaw19_sameTexts.mono : ∀ a0 a1 k, LeO (foghornlaw19_sameTexts.f k a0 a1) (foghornlaw19_sameTexts.f (k + 1) a0 a1) := by
  intro a0 a1 k
  have ih0 := foghornlaw19_sameTexts.mono_l k
  unfold foghornlaw19_sameTexts.f
  repeat' first
      | (with_reducible exact ih0 _ _ _)
      | (with_reducible exact LeO.refl _)
      | (with_reducible exact LeO.none _)
      | (with_reducible refine LeO.ite ?_ ?_)
      | (with_reducible refine LeO.bind ?_ (fun _ => ?_))
      | exact ih0 _ _ _
      | exact LeO.none _
      | refine LeO.ite ?_ ?_
      | refine LeO.bind ?_ (fun _ => ?_)

/-! ### foghornlaw19_ReedBack: function 9 -/
mutual
def foghornlaw19_ReedBack.j0 : Nat → Int → ByteArray → Int → List Int → Bool → Option (Bool)
  | 0, _, _, _, _, _ => none
  | k + 1, x1, x2, x3, x15, x89 => if x89 = true then (some false) else (foghornlaw19_ReedBack.l0 k x1 x2 x3 x15 0)
def foghornlaw19_ReedBack.l0 : Nat → Int → ByteArray → Int → List Int → Int → Option (Bool)
  | 0, _, _, _, _, _ => none
  | k + 1, x1, x2, x3, x15, x17 => if x17 < (x15.length : Int) then (if 0 ≤ x17 then (if (rd x15 x17) = 0 then (foghornlaw19_ReedBack.l0 k x1 x2 x3 x15 (wrap64 (x17 + 1))) else (some false)) else (none)) else (if (IntKind.u64.wrap (wrap64 (255 - x1))) = 0 then (none) else (if 0 ≤ (mn (x2.size : Int) 3000) then (if (mn (x2.size : Int) 3000) ≤ (x2.size : Int) then ((reed_Words.f k (x2.extract 0 ((mn (x2.size : Int) 3000) : Int).toNat) (wrap64 ((wrap64 (x1 + 1)) + (wrap64 (Int.tmod (IntKind.u64.wrap (x3)) (IntKind.u64.wrap (wrap64 (255 - x1))))))) x1).bind fun bt432 => ((reed_Message.f k bt432.1 x1).bind fun bt436 => (if bt432.2 = 0 then (if bt436.2 = 0 then (if bt436.1.toList = (x2.extract 0 ((mn (x2.size : Int) 3000) : Int).toNat).toList then (if (wrap64 ((wrap64 ((wrap64 (x1 + 1)) + (wrap64 (Int.tmod (IntKind.u64.wrap (x3)) (IntKind.u64.wrap (wrap64 (255 - x1))))))) - x1)) = 0 then (none) else (some ((bt432.1.length : Int) == (wrap64 (Int.tdiv (wrap64 ((wrap64 ((wrap64 (((x2.extract 0 ((mn (x2.size : Int) 3000) : Int).toNat).size : Int) + (wrap64 ((wrap64 (x1 + 1)) + (wrap64 (Int.tmod (IntKind.u64.wrap (x3)) (IntKind.u64.wrap (wrap64 (255 - x1))))))))) - x1)) - 1)) (wrap64 ((wrap64 ((wrap64 (x1 + 1)) + (wrap64 (Int.tmod (IntKind.u64.wrap (x3)) (IntKind.u64.wrap (wrap64 (255 - x1))))))) - x1))))))) else (some false)) else (some false)) else (some false)))) else (none)) else (none)))
end
def foghornlaw19_ReedBack.f (k : Nat) (a0 : ByteArray) (a1 : Int) (a2 : ByteArray) (a3 : Int) : Option (Bool) := (foghornlaw19_works.f k).bind fun t418 => (if t418 = true then ((foghornlaw19_fit.f a0 a1).bind fun bt419 => ((reed_Encode.f k bt419.1 bt419.2).bind fun bt421 => ((reed_Data.f k bt421.1 bt419.2).bind fun bt423 => ((reed_Whole.f k bt421.1 bt419.2).bind fun bt425 => ((reed_Syndromes.f k bt421.1 bt419.2).bind fun bt427 => (if bt421.2 = 0 then (if bt423.2 = 0 then (if bt425.2 = 0 then (if bt427.2 = 0 then (if bt423.1.toList = bt419.1.toList then (if bt425.1 = true then (if (bt421.1.size : Int) = (wrap64 ((bt419.1.size : Int) + bt419.2)) then (foghornlaw19_ReedBack.j0 k bt419.2 a2 a3 bt427.1 ((bt427.1.length : Int) != bt419.2)) else (foghornlaw19_ReedBack.j0 k bt419.2 a2 a3 bt427.1 true)) else (foghornlaw19_ReedBack.j0 k bt419.2 a2 a3 bt427.1 true)) else (foghornlaw19_ReedBack.j0 k bt419.2 a2 a3 bt427.1 true)) else (foghornlaw19_ReedBack.j0 k bt419.2 a2 a3 bt427.1 true)) else (foghornlaw19_ReedBack.j0 k bt419.2 a2 a3 bt427.1 true)) else (foghornlaw19_ReedBack.j0 k bt419.2 a2 a3 bt427.1 true)) else (foghornlaw19_ReedBack.j0 k bt419.2 a2 a3 bt427.1 true))))))) else (some false))
theorem foghornlaw19_ReedBack.mono_l : ∀ k, (∀ y0 y1 y2 y3 y4, LeO (foghornlaw19_ReedBack.j0 k y0 y1 y2 y3 y4) (foghornlaw19_ReedBack.j0 (k + 1) y0 y1 y2 y3 y4)) ∧ (∀ y0 y1 y2 y3 y4, LeO (foghornlaw19_ReedBack.l0 k y0 y1 y2 y3 y4) (foghornlaw19_ReedBack.l0 (k + 1) y0 y1 y2 y3 y4))
  | 0 => ⟨fun _ _ _ _ _ r h => by simp [foghornlaw19_ReedBack.j0] at h, fun _ _ _ _ _ r h => by simp [foghornlaw19_ReedBack.l0] at h⟩
  | k + 1 => by
    obtain ⟨ih0, ih1⟩ := foghornlaw19_ReedBack.mono_l k
    refine ⟨?_, ?_⟩
    · intro y0 y1 y2 y3 y4
      unfold foghornlaw19_ReedBack.j0
      repeat' first
      | (with_reducible exact ih0 _ _ _ _ _)
      | (with_reducible exact ih1 _ _ _ _ _)
      | (with_reducible exact foghornlaw19_works.mono _)
      | (with_reducible exact reed_Data.mono _ _ _)
      | (with_reducible exact reed_Encode.mono _ _ _)
      | (with_reducible exact reed_Message.mono _ _ _)
      | (with_reducible exact reed_Syndromes.mono _ _ _)
      | (with_reducible exact reed_Whole.mono _ _ _)
      | (with_reducible exact reed_Words.mono _ _ _ _)
      | (with_reducible exact LeO.refl _)
      | (with_reducible exact LeO.none _)
      | (with_reducible refine LeO.ite ?_ ?_)
      | (with_reducible refine LeO.bind ?_ (fun _ => ?_))
      | exact ih0 _ _ _ _ _
      | exact ih1 _ _ _ _ _
      | exact foghornlaw19_works.mono _
      | exact reed_Data.mono _ _ _
      | exact reed_Encode.mono _ _ _
      | exact reed_Message.mono _ _ _
      | exact reed_Syndromes.mono _ _ _
      | exact reed_Whole.mono _ _ _
      | exact reed_Words.mono _ _ _ _
      | exact LeO.none _
      | refine LeO.ite ?_ ?_
      | refine LeO.bind ?_ (fun _ => ?_)
    · intro y0 y1 y2 y3 y4
      unfold foghornlaw19_ReedBack.l0
      repeat' first
      | (with_reducible exact ih0 _ _ _ _ _)
      | (with_reducible exact ih1 _ _ _ _ _)
      | (with_reducible exact foghornlaw19_works.mono _)
      | (with_reducible exact reed_Data.mono _ _ _)
      | (with_reducible exact reed_Encode.mono _ _ _)
      | (with_reducible exact reed_Message.mono _ _ _)
      | (with_reducible exact reed_Syndromes.mono _ _ _)
      | (with_reducible exact reed_Whole.mono _ _ _)
      | (with_reducible exact reed_Words.mono _ _ _ _)
      | (with_reducible exact LeO.refl _)
      | (with_reducible exact LeO.none _)
      | (with_reducible refine LeO.ite ?_ ?_)
      | (with_reducible refine LeO.bind ?_ (fun _ => ?_))
      | exact ih0 _ _ _ _ _
      | exact ih1 _ _ _ _ _
      | exact foghornlaw19_works.mono _
      | exact reed_Data.mono _ _ _
      | exact reed_Encode.mono _ _ _
      | exact reed_Message.mono _ _ _
      | exact reed_Syndromes.mono _ _ _
      | exact reed_Whole.mono _ _ _
      | exact reed_Words.mono _ _ _ _
      | exact LeO.none _
      | refine LeO.ite ?_ ?_
      | refine LeO.bind ?_ (fun _ => ?_)
theorem foghornlaw19_ReedBack.mono : ∀ a0 a1 a2 a3 k, LeO (foghornlaw19_ReedBack.f k a0 a1 a2 a3) (foghornlaw19_ReedBack.f (k + 1) a0 a1 a2 a3) := by
  intro a0 a1 a2 a3 k
  obtain ⟨ih0, ih1⟩ := foghornlaw19_ReedBack.mono_l k
  unfold foghornlaw19_ReedBack.f
  repeat' first
      | (with_reducible exact ih0 _ _ _ _ _)
      | (with_reducible exact ih1 _ _ _ _ _)
      | (with_reducible exact foghornlaw19_works.mono _)
      | (with_reducible exact reed_Data.mono _ _ _)
      | (with_reducible exact reed_Encode.mono _ _ _)
      | (with_reducible exact reed_Message.mono _ _ _)
      | (with_reducible exact reed_Syndromes.mono _ _ _)
      | (with_reducible exact reed_Whole.mono _ _ _)
      | (with_reducible exact reed_Words.mono _ _ _ _)
      | (with_reducible exact LeO.refl _)
      | (with_reducible exact LeO.none _)
      | (with_reducible refine LeO.ite ?_ ?_)
      | (with_reducible refine LeO.bind ?_ (fun _ => ?_))
      | exact ih0 _ _ _ _ _
      | exact ih1 _ _ _ _ _
      | exact foghornlaw19_works.mono _
      | exact reed_Data.mono _ _ _
      | exact reed_Encode.mono _ _ _
      | exact reed_Message.mono _ _ _
      | exact reed_Syndromes.mono _ _ _
      | exact reed_Whole.mono _ _ _
      | exact reed_Words.mono _ _ _ _
      | exact LeO.none _
      | refine LeO.ite ?_ ?_
      | refine LeO.bind ?_ (fun _ => ?_)
/-- THE ONE PURE STATEMENT of foghornlaw19_ReedBack: yours. -/
def foghornlaw19_ReedBack.Pure : Prop := ∀ (a0 : ByteArray) (a1 : Int) (a2 : ByteArray) (a3 : Int), a0.size ≤ 140737488351232 → (Lit.int .i64 a1).wf = true → a2.size ≤ 140737488351232 → (Lit.int .i64 a3).wf = true → ∃ k, foghornlaw19_ReedBack.f k a0 a1 a2 a3 = some true

end Go.Proofs.Ytncoakokdajibaa.Q
