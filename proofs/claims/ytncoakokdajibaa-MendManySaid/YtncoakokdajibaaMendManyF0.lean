import Derived.Test.YtncoakokdajibaaMendManyK0
-- Printed by myprint.py (ours) over the kit's printer, out of the translation.
namespace Go.Proofs.Ytncoakokdajibaa.Q
open Go.RowKit Go.Proofs.YtncoakokdajibaaW.PrintWords Go.Proofs.YtncoakokdajibaaW.PrintLast Go.Proofs.YtncoakokdajibaaW.PrintMore
attribute [local go_sem] ArrW.ptrOf_slice unary_neg_float unary_neg_complex run_store_float run_store_complex max2_int min2_int max_two min_two max_three min_three max_four min_four   -- for this text's walks alone
set_option linter.unusedVariables false
set_option linter.unusedSimpArgs false
def field_Times.l0 : Nat → Int → Int → Int → Option (Int)
  | 0, _, _, _ => none
  | k + 1, x0, x1, x5 => if x1 > 0 then (field_Times.l0 k (Go.bits .xor .u8 ((x0 * 2) % 256) (((x0 / 128) * 29) % 256)) (x1 / 2) (Go.bits .xor .u8 x5 ((x0 * (Go.bits .and .u8 x1 1)) % 256))) else (some x5)
def field_Times.f (k : Nat) (a0 : Int) (a1 : Int) : Option (Int) := field_Times.l0 k a0 a1 0
theorem field_Times.mono_l : ∀ k, (∀ y0 y1 y2, LeO (field_Times.l0 k y0 y1 y2) (field_Times.l0 (k + 1) y0 y1 y2))
  | 0 => fun _ _ _ r h => by simp [field_Times.l0] at h
  | k + 1 => by
    have ih0 := field_Times.mono_l k
    · intro y0 y1 y2
      unfold field_Times.l0
      repeat' first
      | (with_reducible exact ih0 _ _ _)
      | (with_reducible exact LeO.refl _)
      | (with_reducible exact LeO.none _)
      | (with_reducible refine LeO.ite ?_ ?_)
      | (with_reducible refine LeO.bind ?_ (fun _ => ?_))
      | exact ih0 _ _ _
      | exact LeO.none _
      | refine LeO.ite ?_ ?_
      | refine LeO.bind ?_ (fun _ => ?_)
theorem field_Times.mono : ∀ a0 a1 k, LeO (field_Times.f k a0 a1) (field_Times.f (k + 1) a0 a1) := by
  intro a0 a1 k
  have ih0 := field_Times.mono_l k
  unfold field_Times.f
  repeat' first
      | (with_reducible exact ih0 _ _ _)
      | (with_reducible exact LeO.refl _)
      | (with_reducible exact LeO.none _)
      | (with_reducible refine LeO.ite ?_ ?_)
      | (with_reducible refine LeO.bind ?_ (fun _ => ?_))
      | exact ih0 _ _ _
      | exact LeO.none _
      | refine LeO.ite ?_ ?_
      | refine LeO.bind ?_ (fun _ => ?_)
def field_raised.l0 : Nat → Int → Int → Int → Option (Int)
  | 0, _, _, _ => none
  | k + 1, x0, x1, x5 => if x1 > 0 then (if (Go.bits .and .i64 x1 1) > 0 then ((field_Times.f k x5 x0).bind fun t131 => ((field_Times.f k x0 x0).bind fun t132 => (field_raised.l0 k t132 (x1 / 2) t131))) else ((field_Times.f k x0 x0).bind fun t133 => (field_raised.l0 k t133 (x1 / 2) x5))) else (some x5)
def field_raised.f (k : Nat) (a0 : Int) (a1 : Int) : Option (Int) := field_raised.l0 k a0 a1 1
theorem field_raised.mono_l : ∀ k, (∀ y0 y1 y2, LeO (field_raised.l0 k y0 y1 y2) (field_raised.l0 (k + 1) y0 y1 y2))
  | 0 => fun _ _ _ r h => by simp [field_raised.l0] at h
  | k + 1 => by
    have ih0 := field_raised.mono_l k
    · intro y0 y1 y2
      unfold field_raised.l0
      repeat' first
      | (with_reducible exact ih0 _ _ _)
      | (with_reducible exact field_Times.mono _ _ _)
      | (with_reducible exact LeO.refl _)
      | (with_reducible exact LeO.none _)
      | (with_reducible refine LeO.ite ?_ ?_)
      | (with_reducible refine LeO.bind ?_ (fun _ => ?_))
      | exact ih0 _ _ _
      | exact field_Times.mono _ _ _
      | exact LeO.none _
      | refine LeO.ite ?_ ?_
      | refine LeO.bind ?_ (fun _ => ?_)
theorem field_raised.mono : ∀ a0 a1 k, LeO (field_raised.f k a0 a1) (field_raised.f (k + 1) a0 a1) := by
  intro a0 a1 k
  have ih0 := field_raised.mono_l k
  unfold field_raised.f
  repeat' first
      | (with_reducible exact ih0 _ _ _)
      | (with_reducible exact field_Times.mono _ _ _)
      | (with_reducible exact LeO.refl _)
      | (with_reducible exact LeO.none _)
      | (with_reducible refine LeO.ite ?_ ?_)
      | (with_reducible refine LeO.bind ?_ (fun _ => ?_))
      | exact ih0 _ _ _
      | exact field_Times.mono _ _ _
      | exact LeO.none _
      | refine LeO.ite ?_ ?_
      | refine LeO.bind ?_ (fun _ => ?_)
def field_Exp.f (k : Nat) (a0 : Int) : Option (Int) := (field_raised.f k 2 (Int.tmod (wrap64 ((Int.tmod a0 255) + 255)) 255)).bind fun t134 => (some t134)
theorem field_Exp.mono : ∀ a0 k, LeO (field_Exp.f k a0) (field_Exp.f (k + 1) a0) := by
  intro a0 k
  unfold field_Exp.f
  repeat' first
      | (with_reducible exact field_raised.mono _ _ _)
      | (with_reducible exact LeO.refl _)
      | (with_reducible exact LeO.none _)
      | (with_reducible refine LeO.ite ?_ ?_)
      | (with_reducible refine LeO.bind ?_ (fun _ => ?_))
      | exact field_raised.mono _ _ _
      | exact LeO.none _
      | refine LeO.ite ?_ ?_
      | refine LeO.bind ?_ (fun _ => ?_)
def reed_checks.f (a0 : Int) : Option (Bool) := if a0 ≥ 2 then (if a0 ≤ 64 then (some ((Int.tmod a0 2) == 0)) else (some false)) else (some false)
def reed_Check.f (a0 : Int) (a1 : Int) : Option (Int) := (reed_checks.f a1).bind fun t145 => (if t145 = true then (if a0 ≤ a1 then (some 1) else (if a0 > 255 then (some 1) else (some 0))) else (some 1))
mutual
def reed_Syndromes.l0 : Nat → ByteArray → List Int → Int → Int → Option (List Int × Int)
  | 0, _, _, _, _ => none
  | k + 1, x0, x6, x18, x19 => if x19 < x18 then ((field_Exp.f k x19).bind fun t165 => (reed_Syndromes.l1 k x0 x6 x19 t165 x18 x19 (x0.size : Int) 0)) else (some (x6, 0))
def reed_Syndromes.l1 : Nat → ByteArray → List Int → Int → Int → Int → Int → Int → Int → Option (List Int × Int)
  | 0, _, _, _, _, _, _, _, _ => none
  | k + 1, x0, x6, x7, x8, x18, x19, x25, x26 => if x26 < x25 then (if 0 ≤ x7 then (if x7 < (x6.length : Int) then ((field_Times.f k (rd x6 x7) x8).bind fun t167 => (if 0 ≤ x26 then (if x26 < (x0.size : Int) then (reed_Syndromes.l1 k x0 (x6.set (x7 : Int).toNat (Go.bits .xor .u8 t167 (bt x0 x26))) x7 x8 x18 x19 x25 (wrap64 (x26 + 1))) else (none)) else (none))) else (none)) else (none)) else (reed_Syndromes.l0 k x0 x6 x18 (wrap64 (x19 + 1)))
end
def reed_Syndromes.f (k : Nat) (a0 : ByteArray) (a1 : Int) : Option (List Int × Int) := (reed_Check.f (a0.size : Int) a1).bind fun t161 => (if t161 = 0 then (if 0 ≤ a1 then (if (a1 : Int).toNat ≤ 281474976710656 then ((some (List.replicate (a1 : Int).toNat 0 : List Int)).bind fun y162 => (reed_Syndromes.l0 k a0 y162 (y162.length : Int) 0)) else (none)) else (none)) else (some (([] : List Int), 1)))
def reed_Syndromes.T11 : Bool × List (List Nat × List Nat) := (true, [([], []), ([], []), ([], []), ([], []), ([2, 3], [2, 3]), ([4], [4]), ([], []), ([5, 6], [5, 6]), ([], []), ([], []), ([8, 9], [8, 9]), ([7, 10], [7, 10]), ([0, 1, 0, 1, 2, 3, 4, 5, 6, 7, 8, 9, 10, 11], [0, 1]), ([12, 11, 7, 0, 1, 2, 3, 4, 5, 6, 7, 8, 9, 10, 11], [11, 12])])
def reed_Syndromes.B11 : List Nat := [0, 0, 0, 0, 12, 28, 0, 124, 0, 0, 768, 2044, 4095, 8191]
theorem reed_Syndromes.tab11 : rtab .any (opsOf Try.f22 11) = reed_Syndromes.T11 := by kernel_rfl
theorem reed_Syndromes.bits11 : waitsOk reed_Syndromes.T11.2 reed_Syndromes.B11 = true := by kernel_rfl
def reed_Whole.l0 : Nat → List Int → Int → Int → Option (Bool × Int)
  | 0, _, _, _ => none
  | k + 1, x19, x20, x21 => if x21 < x20 then (if 0 ≤ x21 then (if x21 < (x19.length : Int) then (if (rd x19 x21) = 0 then (reed_Whole.l0 k x19 x20 (wrap64 (x21 + 1))) else (some (false, 0))) else (none)) else (none)) else (some (true, 0))
def reed_Whole.f (k : Nat) (a0 : ByteArray) (a1 : Int) : Option (Bool × Int) := (reed_Syndromes.f k a0 a1).bind fun bt169 => (if bt169.2 = 0 then (reed_Whole.l0 k bt169.1 (bt169.1.length : Int) 0) else (some (false, bt169.2)))
def foghornref19_Check.f (a0 : Int) (a1 : Int) : Option (Int) := if a1 < 2 then (some 1) else (if a1 > 64 then (some 1) else (if (Int.tmod a1 2) = 0 then (if a0 < (wrap64 (a1 + 1)) then (some 1) else (if a0 > 255 then (some 1) else (some 0))) else (some 1)))
def foghornref19_Times.l0 : Nat → Int → Int → Int → Int → Option (Int)
  | 0, _, _, _, _ => none
  | k + 1, x1, x5, x6, x7 => if x7 < 8 then (if 0 ≤ x7 then (if (Go.bits .and .u8 (shr .u8 x1 x7) 1) = 1 then (if (wrap64 (2 * x5)) > 255 then (foghornref19_Times.l0 k x1 (Go.bits .xor .i64 (wrap64 (2 * x5)) 285) (Go.bits .xor .i64 x6 x5) (wrap64 (x7 + 1))) else (foghornref19_Times.l0 k x1 (wrap64 (2 * x5)) (Go.bits .xor .i64 x6 x5) (wrap64 (x7 + 1)))) else (if (wrap64 (2 * x5)) > 255 then (foghornref19_Times.l0 k x1 (Go.bits .xor .i64 (wrap64 (2 * x5)) 285) x6 (wrap64 (x7 + 1))) else (foghornref19_Times.l0 k x1 (wrap64 (2 * x5)) x6 (wrap64 (x7 + 1))))) else (none)) else (some ((x6) % 256))
def foghornref19_Times.f (k : Nat) (a0 : Int) (a1 : Int) : Option (Int) := foghornref19_Times.l0 k a1 (wrap64 (a0)) 0 0
def foghornref19_Power.l0 : Nat → Int → Int → Int → Option (Int)
  | 0, _, _, _ => none
  | k + 1, x0, x3, x4 => if x4 < x0 then ((foghornref19_Times.f k x3 2).bind fun t242 => (foghornref19_Power.l0 k x0 t242 (wrap64 (x4 + 1)))) else (some x3)
def foghornref19_Power.f (k : Nat) (a0 : Int) : Option (Int) := foghornref19_Power.l0 k a0 1 0
def foghornref19_At.l0 : Nat → ByteArray → Int → Int → Int → Int → Option (Int)
  | 0, _, _, _, _, _ => none
  | k + 1, x0, x1, x5, x6, x7 => if x7 ≥ 0 then (if 0 ≤ x7 then (if x7 < (x0.size : Int) then ((foghornref19_Times.f k (bt x0 x7) x6).bind fun t279 => ((foghornref19_Times.f k x6 x1).bind fun t280 => (foghornref19_At.l0 k x0 x1 (Go.bits .xor .u8 x5 t279) t280 (wrap64 (x7 - 1))))) else (none)) else (none)) else (some x5)
def foghornref19_At.f (k : Nat) (a0 : ByteArray) (a1 : Int) : Option (Int) := foghornref19_At.l0 k a0 a1 0 1 (wrap64 ((a0.size : Int) - 1))
def foghornref19_Syndromes.l0 : Nat → ByteArray → Int → List Int → Int → Option (List Int × Int)
  | 0, _, _, _, _ => none
  | k + 1, x0, x1, x6, x7 => if x7 < x1 then ((foghornref19_Power.f k x7).bind fun t282 => ((foghornref19_At.f k x0 t282).bind fun t283 => (if x6.length < 140737488355328 then (foghornref19_Syndromes.l0 k x0 x1 (x6 ++ [t283]) (wrap64 (x7 + 1))) else (none)))) else (some (x6, 0))
def foghornref19_Syndromes.f (k : Nat) (a0 : ByteArray) (a1 : Int) : Option (List Int × Int) := (foghornref19_Check.f (a0.size : Int) a1).bind fun t281 => (if t281 = 0 then (foghornref19_Syndromes.l0 k a0 a1 ([] : List Int) 0) else (some (([] : List Int), 1)))
def foghornref19_Whole.l0 : Nat → List Int → Int → Option (Bool × Int)
  | 0, _, _ => none
  | k + 1, x6, x8 => if x8 < (x6.length : Int) then (if 0 ≤ x8 then (if (rd x6 x8) = 0 then (foghornref19_Whole.l0 k x6 (wrap64 (x8 + 1))) else (some (false, 0))) else (none)) else (some (true, 0))
def foghornref19_Whole.f (k : Nat) (a0 : ByteArray) (a1 : Int) : Option (Bool × Int) := (foghornref19_Syndromes.f k a0 a1).bind fun bt287 => (if bt287.2 = 0 then (foghornref19_Whole.l0 k bt287.1 0) else (some (false, bt287.2)))
def foghornlaw19_sameBytes.l0 : Nat → List Int → List Int → Int → Option (Bool)
  | 0, _, _, _ => none
  | k + 1, x0, x1, x5 => if x5 < (x0.length : Int) then (if 0 ≤ x5 then (if x5 < (x1.length : Int) then (if (rd x0 x5) = (rd x1 x5) then (foghornlaw19_sameBytes.l0 k x0 x1 (wrap64 (x5 + 1))) else (some false)) else (none)) else (none)) else (some true)
def foghornlaw19_sameBytes.f (k : Nat) (l0 : List Int) (l1 : List Int) : Option (Bool) := if (l0.length : Int) = (l1.length : Int) then (foghornlaw19_sameBytes.l0 k l0 l1 0) else (some false)
def mend_marked.l0 : Nat → Int → List Bool → Bool → List Int → Int → Int → Option (List Bool × Bool)
  | 0, _, _, _, _, _, _ => none
  | k + 1, x1, x6, x7, x12, x13, x14 => if x14 < x13 then (if 0 ≤ x14 then (if x14 < (x12.length : Int) then (if (rd x12 x14) < 0 then (some (x6, false)) else (if (rd x12 x14) ≥ x1 then (some (x6, false)) else (if 0 ≤ (rd x12 x14) then (if (rd x12 x14) < (x6.length : Int) then (if rdOf false x6 (rd x12 x14) = true then (some (x6, false)) else (mend_marked.l0 k x1 (x6.set ((rd x12 x14) : Int).toNat true) x7 x12 x13 (wrap64 (x14 + 1)))) else (none)) else (none)))) else (none)) else (none)) else (some (x6, x7))
def mend_marked.f (k : Nat) (l0 : List Int) (a1 : Int) : Option (List Bool × Bool) := if 0 ≤ a1 then (if (a1 : Int).toNat ≤ 281474976710656 then (mend_marked.l0 k a1 (List.replicate (a1 : Int).toNat false) true l0 (l0.length : Int) 0) else (none)) else (none)
def mend_check.f (k : Nat) (a0 : ByteArray) (a1 : Int) (l2 : List Int) : Option (List Bool × Int) := (reed_Check.f (a0.size : Int) a1).bind fun t738 => (if t738 = 0 then ((mend_marked.f k l2 (a0.size : Int)).bind fun bt739 => (if bt739.2 = true then (some (bt739.1, 0)) else (some (([] : List Bool), 1)))) else (some (([] : List Bool), 1)))
def mend_unlike.l0 : Nat → ByteArray → ByteArray → List Bool → List Int → Int → Int → Option (List Int)
  | 0, _, _, _, _, _, _ => none
  | k + 1, x0, x1, x2, x7, x10, x11 => if x11 < x10 then (if 0 ≤ x11 then (if x11 < (x0.size : Int) then (if x11 < (x1.size : Int) then (if (bt x0 x11) = (bt x1 x11) then (mend_unlike.l0 k x0 x1 x2 x7 x10 (wrap64 (x11 + 1))) else (if x11 < (x2.length : Int) then (if rdOf false x2 x11 = true then (mend_unlike.l0 k x0 x1 x2 x7 x10 (wrap64 (x11 + 1))) else (if x7.length < 17592186044416 then (mend_unlike.l0 k x0 x1 x2 (x7 ++ [x11]) x10 (wrap64 (x11 + 1))) else (none))) else (none))) else (none)) else (none)) else (none)) else (some x7)
def mend_unlike.f (k : Nat) (a0 : ByteArray) (a1 : ByteArray) (l2 : List Bool) : Option (List Int) := mend_unlike.l0 k a0 a1 l2 ([] : List Int) (a0.size : Int) 0
def mend_within.f (k : Nat) (a0 : ByteArray) (a1 : ByteArray) (a2 : Int) (l3 : List Bool) (a4 : Int) : Option (Bool) := (mend_unlike.f k a0 a1 l3).bind fun t747 => (some (decide ((wrap64 ((wrap64 (2 * (t747.length : Int))) + a4)) ≤ a2)))
def mend_unit.f (k : Nat) (a0 : Int) (a1 : Int) : Option (Int) := (field_Exp.f k (wrap64 ((wrap64 (a1 - 1)) - a0))).bind fun t750 => (some t750)
theorem mend_unit.mono : ∀ a0 a1 k, LeO (mend_unit.f k a0 a1) (mend_unit.f (k + 1) a0 a1) := by
  intro a0 a1 k
  unfold mend_unit.f
  repeat' first
      | (with_reducible exact field_Exp.mono _ _)
      | (with_reducible exact LeO.refl _)
      | (with_reducible exact LeO.none _)
      | (with_reducible refine LeO.ite ?_ ?_)
      | (with_reducible refine LeO.bind ?_ (fun _ => ?_))
      | exact field_Exp.mono _ _
      | exact LeO.none _
      | refine LeO.ite ?_ ?_
      | refine LeO.bind ?_ (fun _ => ?_)
mutual
def mend_locator.l0 : Nat → Int → List Int → List Int → Int → Int → Option (List Int)
  | 0, _, _, _, _, _ => none
  | k + 1, x1, x5, x16, x17, x18 => if x18 < x17 then (if 0 ≤ x18 then (if x18 < (x16.length : Int) then ((mend_unit.f k (rd x16 x18) x1).bind fun t756 => (if x5.length < 140737488355328 then ((some (x5 ++ [0] : List Int)).bind fun y757 => (mend_locator.l1 k x1 y757 t756 (wrap64 ((y757.length : Int) - 1)) x16 x17 x18)) else (none))) else (none)) else (none)) else (some x5)
def mend_locator.l1 : Nat → Int → List Int → Int → Int → List Int → Int → Int → Option (List Int)
  | 0, _, _, _, _, _, _, _ => none
  | k + 1, x1, x5, x8, x9, x16, x17, x18 => if x9 > 0 then (if 0 ≤ x9 then (if x9 < (x5.length : Int) then (if 0 ≤ (wrap64 (x9 - 1)) then (if (wrap64 (x9 - 1)) < (x5.length : Int) then ((field_Times.f k (rd x5 (wrap64 (x9 - 1))) x8).bind fun t762 => (mend_locator.l1 k x1 (x5.set (x9 : Int).toNat (Go.bits .xor .u8 (rd x5 x9) t762)) x8 (wrap64 (x9 - 1)) x16 x17 x18)) else (none)) else (none)) else (none)) else (none)) else (mend_locator.l0 k x1 x5 x16 x17 (wrap64 (x18 + 1)))
end
def mend_locator.f (k : Nat) (l0 : List Int) (a1 : Int) : Option (List Int) := if 1 ≤ (wrap64 ((l0.length : Int) + 1)) then (if (wrap64 ((l0.length : Int) + 1) : Int).toNat ≤ 281474976710656 then ((some (List.replicate 1 0 : List Int)).bind fun y751 => (if 0 < (y751.length : Int) then (mend_locator.l0 k a1 (y751.set (0 : Int).toNat 1) l0 (l0.length : Int) 0) else (none))) else (none)) else (none)
def mend_locator.T11 : Bool × List (List Nat × List Nat) := (true, [([], []), ([], []), ([0, 1], [0, 1]), ([2], [2]), ([], []), ([], []), ([5], [5]), ([4, 6], [4, 6]), ([7], [7]), ([], []), ([8, 9], [8, 9]), ([3, 10], [3, 10]), ([0, 1, 0, 1, 2, 3, 4, 5, 6, 7, 8, 9, 10, 11], [0, 1]), ([12, 11, 10, 0, 1, 2, 3, 4, 5, 6, 7, 8, 9, 10, 11], [11, 12])])
def mend_locator.B11 : List Nat := [0, 0, 3, 7, 0, 0, 32, 112, 240, 0, 1008, 2047, 4095, 8191]
theorem mend_locator.tab11 : rtab .any (opsOf Try.f100 11) = mend_locator.T11 := by kernel_rfl
theorem mend_locator.bits11 : waitsOk mend_locator.T11.2 mend_locator.B11 = true := by kernel_rfl
def field_Over.f (k : Nat) (a0 : Int) (a1 : Int) : Option (Int × Int) := if a1 = 0 then (some (0, 6)) else ((field_raised.f k a1 254).bind fun t764 => ((field_Times.f k a0 t764).bind fun t765 => (some (t765, 0))))
theorem field_Over.mono : ∀ a0 a1 k, LeO (field_Over.f k a0 a1) (field_Over.f (k + 1) a0 a1) := by
  intro a0 a1 k
  unfold field_Over.f
  repeat' first
      | (with_reducible exact field_Times.mono _ _ _)
      | (with_reducible exact field_raised.mono _ _ _)
      | (with_reducible exact LeO.refl _)
      | (with_reducible exact LeO.none _)
      | (with_reducible refine LeO.ite ?_ ?_)
      | (with_reducible refine LeO.bind ?_ (fun _ => ?_))
      | exact field_Times.mono _ _ _
      | exact field_raised.mono _ _ _
      | exact LeO.none _
      | refine LeO.ite ?_ ?_
      | refine LeO.bind ?_ (fun _ => ?_)
def mk_at (k : Nat) (p : List Int) (x : Int) : Nat → Int → Option Int
  | 0, s => some s
  | d + 1, s => (field_Times.f k s x).bind fun t => mk_at k p x d (Go.bits .xor .u8 t (rd p (d : Int)))
theorem mk_at.mono (k : Nat) (p : List Int) (x : Int) : ∀ d s, LeO (mk_at k p x d s) (mk_at (k + 1) p x d s)
  | 0, _ => LeO.refl _
  | d + 1, _ => LeO.bind (field_Times.mono _ _ k) fun _ => mk_at.mono k p x d _
def mk_disc (k : Nat) (now s : List Int) (n : Nat) : Nat → Nat → Int → Option Int
  | 0, _, d => some d
  | c + 1, j, d => (field_Times.f k (rd now (j : Int)) (rd s ((n - j : Nat) : Int))).bind fun t => mk_disc k now s n c (j + 1) (Go.bits .xor .u8 d t)
theorem mk_disc.mono (k : Nat) (now s : List Int) (n : Nat) : ∀ c j d, LeO (mk_disc k now s n c j d) (mk_disc (k + 1) now s n c j d)
  | 0, _, _ => LeO.refl _
  | c + 1, _, _ => LeO.bind (field_Times.mono _ _ k) fun _ => mk_disc.mono k now s n c _ _
def mk_next (k : Nat) (by_ : Int) (old : List Int) (gap : Nat) : Nat → Nat → List Int → Option (List Int)
  | 0, _, x => some x
  | c + 1, j, x => (field_Times.f k by_ (rd old (j : Int))).bind fun t => mk_next k by_ old gap c (j + 1) (x.set (j + gap) (Go.bits .xor .u8 (rd x ((j + gap : Nat) : Int)) t))
theorem mk_next.mono (k : Nat) (by_ : Int) (old : List Int) (gap : Nat) : ∀ c j x, LeO (mk_next k by_ old gap c j x) (mk_next (k + 1) by_ old gap c j x)
  | 0, _, _ => LeO.refl _
  | c + 1, _, _ => LeO.bind (field_Times.mono _ _ k) fun _ => mk_next.mono k by_ old gap c _ _
structure Kst where
  now : List Int
  old : List Int
  l : Nat
  last : Int
  gap : Nat
def mk_round (k : Nat) (s : List Int) (f n : Nat) (q : Kst) : Option Kst :=
  if q.l < 66 ∧ q.gap ≤ 1000 then (mk_disc k q.now s n (min q.l n + 1) 0 0).bind fun d =>
    if d = 0 then some { q with gap := q.gap + 1 } else (field_Over.f k d q.last).bind fun b => (mk_next k b.1 q.old q.gap (66 - q.gap) 0 q.now).bind fun x =>
      if 2 * q.l ≤ n + f then some ⟨x, q.now, n + 1 + f - q.l, d, 1⟩ else some { q with now := x, gap := q.gap + 1 }
  else none
theorem mk_round.mono (k : Nat) (s : List Int) (f n : Nat) (q : Kst) : LeO (mk_round k s f n q) (mk_round (k + 1) s f n q) :=
  LeO.ite (LeO.bind (mk_disc.mono k _ _ _ _ _ _) fun _ => LeO.ite (LeO.refl _) (LeO.bind (field_Over.mono _ _ k) fun _ => LeO.bind (mk_next.mono k _ _ _ _ _ _) fun _ => LeO.refl _)) (LeO.refl _)
def mk_loop (k : Nat) (s : List Int) (f : Nat) : Nat → Nat → Kst → Option Kst
  | 0, _, q => some q
  | c + 1, n, q => (mk_round k s f n q).bind fun r => mk_loop k s f c (n + 1) r
theorem mk_loop.mono (k : Nat) (s : List Int) (f : Nat) : ∀ c n q, LeO (mk_loop k s f c n q) (mk_loop (k + 1) s f c n q)
  | 0, _, _ => LeO.refl _
  | c + 1, _, _ => LeO.bind (mk_round.mono k s f _ _) fun _ => mk_loop.mono k s f c _ _
def mk_pad (lost : List Int) : List Int := lost ++ List.replicate (66 - lost.length) 0
def mk_key (k : Nat) (s lost : List Int) : Option (List Int × Nat) :=
  if 1 ≤ lost.length ∧ lost.length ≤ 66 ∧ s.length ≤ 1000 then (mk_loop k s (lost.length - 1) (s.length - (lost.length - 1)) (lost.length - 1) ⟨mk_pad lost, mk_pad lost, lost.length - 1, 1, 1⟩).bind fun q => some (q.now, q.l) else none
theorem mk_key.mono (k : Nat) (s lost : List Int) : LeO (mk_key k s lost) (mk_key (k + 1) s lost) :=
  LeO.ite (LeO.bind (mk_loop.mono k _ _ _ _ _) fun _ => LeO.refl _) (LeO.refl _)
def mk_over (k : Nat) (p s : List Int) (deg : Nat) : Nat → Nat → List Int → Option (List Int)
  | 0, _, x => some x
  | c + 1, j, x => (mk_disc k p s j (min deg j + 1) 0 (rd x (j : Int))).bind fun v => mk_over k p s deg c (j + 1) (x.set j v)
theorem mk_over.mono (k : Nat) (p s : List Int) (deg : Nat) : ∀ c j x, LeO (mk_over k p s deg c j x) (mk_over (k + 1) p s deg c j x)
  | 0, _, _ => LeO.refl _
  | c + 1, _, _ => LeO.bind (mk_disc.mono k _ _ _ _ _ _) fun _ => mk_over.mono k p s deg c _ _
def mk_slope (p : List Int) : Nat → Nat → List Int → List Int
  | 0, _, x => x
  | c + 1, j, x => mk_slope p c (j + 2) (x.set (j - 1) (rd p (j : Int)))
def mk_fix (k n r deg : Nat) (p ov sl : List Int) : Nat → Nat → List Int → Option (Option (List Int))
  | 0, _, b => some (some b)
  | c + 1, i, b => (mend_unit.f k (i : Int) (n : Int)).bind fun x => (field_Over.f k 1 x).bind fun y => (mk_at k p y.1 (deg + 1) 0).bind fun z =>
    if z = 0 then (mk_at k ov y.1 r 0).bind fun u => (field_Times.f k x u).bind fun t => (mk_at k sl y.1 (deg + 1) 0).bind fun v => (field_Over.f k t v).bind fun e =>
      if e.2 = 0 then mk_fix k n r deg p ov sl c (i + 1) (b.set i (Go.bits .xor .u8 (rd b (i : Int)) e.1)) else some none
    else mk_fix k n r deg p ov sl c (i + 1) b
theorem mk_fix.mono (k n r deg : Nat) (p ov sl : List Int) : ∀ c i b, LeO (mk_fix k n r deg p ov sl c i b) (mk_fix (k + 1) n r deg p ov sl c i b)
  | 0, _, _ => LeO.refl _
  | c + 1, _, _ => LeO.bind (mend_unit.mono _ _ k) fun _ => LeO.bind (field_Over.mono _ _ k) fun _ => LeO.bind (mk_at.mono k _ _ _ _) fun _ => LeO.ite (LeO.bind (mk_at.mono k _ _ _ _) fun _ => LeO.bind (field_Times.mono _ _ k) fun _ => LeO.bind (mk_at.mono k _ _ _ _) fun _ => LeO.bind (field_Over.mono _ _ k) fun _ => LeO.ite (mk_fix.mono k n r deg p ov sl c _ _) (LeO.refl _)) (mk_fix.mono k n r deg p ov sl c _ _)
def mk_end (k : Nat) (a0 : ByteArray) (a1 : Int) (l2 : List Bool) (m : Nat) : Option (List Int) → Option (ByteArray × Bool)
  | none => some (⟨#[]⟩, false)
  | some b => (reed_Whole.f k (strOfNums b) a1).bind fun wh => if wh.1 = true then (mend_within.f k a0 (strOfNums b) a1 l2 (m : Int)).bind fun wi => if wi = true then some (strOfNums b, true) else some (⟨#[]⟩, false) else some (⟨#[]⟩, false)
def mk_zeros : List Int := List.replicate 66 0
def mend_mend.f (k : Nat) (a0 : ByteArray) (a1 : Int) (l2 : List Bool) (l3 : List Int) : Option (ByteArray × Bool) :=
  (reed_Syndromes.f k a0 a1).bind fun s => (mend_locator.f k l3 (a0.size : Int)).bind fun lo => (mk_key k s.1 lo).bind fun q =>
    if (q.2 : Int) > a1 then some (⟨#[]⟩, false) else if 1 ≤ a1 ∧ a1 ≤ 64 ∧ a1 = (s.1.length : Int) ∧ a0.size ≤ 1000000 then
      (mk_over k q.1 s.1 q.2 s.1.length 0 mk_zeros).bind fun ov => (mk_fix k a0.size s.1.length q.2 q.1 ov (mk_slope q.1 ((q.2 + 1) / 2) 1 mk_zeros) a0.size 0 (bytesOf a0)).bind fun ob => mk_end k a0 a1 l2 l3.length ob
    else none
def mend_rising.l0 : Nat → List Int → List Bool → Int → Int → Option (List Int)
  | 0, _, _, _, _ => none
  | k + 1, x3, x6, x7, x8 => if x8 < x7 then (if 0 ≤ x8 then (if x8 < (x6.length : Int) then (if rdOf false x6 x8 = true then (if x3.length < 17592186044416 then (mend_rising.l0 k (x3 ++ [x8]) x6 x7 (wrap64 (x8 + 1))) else (none)) else (mend_rising.l0 k x3 x6 x7 (wrap64 (x8 + 1)))) else (none)) else (none)) else (some x3)
def mend_rising.f (k : Nat) (l0 : List Bool) : Option (List Int) := mend_rising.l0 k ([] : List Int) l0 (l0.length : Int) 0
def mend_Mend.f (k : Nat) (a0 : ByteArray) (a1 : Int) (l2 : List Int) : Option (ByteArray × List Int × List Int × Int) := (mend_check.f k a0 a1 l2).bind fun bt771 => (if bt771.2 = 0 then (if (l2.length : Int) > a1 then (some ((⟨#[]⟩ : ByteArray), ([] : List Int), ([] : List Int), 9)) else ((mend_mend.f k a0 a1 bt771.1 l2).bind fun bt775 => (if bt775.2 = true then ((mend_unlike.f k a0 bt775.1 bt771.1).bind fun t777 => ((mend_rising.f k bt771.1).bind fun t780 => (some (bt775.1, t777, t780, 0)))) else (some ((⟨#[]⟩ : ByteArray), ([] : List Int), ([] : List Int), 9))))) else (some ((⟨#[]⟩ : ByteArray), ([] : List Int), ([] : List Int), bt771.2)))
def foghornref20_Numbers.l0 : Nat → List Int → List Int → Int → Option (Bool)
  | 0, _, _, _ => none
  | k + 1, x0, x1, x5 => if x5 < (x0.length : Int) then (if 0 ≤ x5 then (if x5 < (x1.length : Int) then (if (rd x0 x5) = (rd x1 x5) then (foghornref20_Numbers.l0 k x0 x1 (wrap64 (x5 + 1))) else (some false)) else (none)) else (none)) else (some true)
def foghornref20_Numbers.f (k : Nat) (l0 : List Int) (l1 : List Int) : Option (Bool) := if (l0.length : Int) = (l1.length : Int) then (foghornref20_Numbers.l0 k l0 l1 0) else (some false)
theorem foghornref20_Numbers.mono_l : ∀ k, (∀ y0 y1 y2, LeO (foghornref20_Numbers.l0 k y0 y1 y2) (foghornref20_Numbers.l0 (k + 1) y0 y1 y2))
  | 0 => fun _ _ _ r h => by simp [foghornref20_Numbers.l0] at h
  | k + 1 => by
    have ih0 := foghornref20_Numbers.mono_l k
    · intro y0 y1 y2
      unfold foghornref20_Numbers.l0
      repeat' first
      | (with_reducible exact ih0 _ _ _)
      | (with_reducible exact LeO.refl _)
      | (with_reducible exact LeO.none _)
      | (with_reducible refine LeO.ite ?_ ?_)
      | (with_reducible refine LeO.bind ?_ (fun _ => ?_))
      | exact ih0 _ _ _
      | exact LeO.none _
      | refine LeO.ite ?_ ?_
      | refine LeO.bind ?_ (fun _ => ?_)
theorem foghornref20_Numbers.mono : ∀ a0 a1 k, LeO (foghornref20_Numbers.f k a0 a1) (foghornref20_Numbers.f (k + 1) a0 a1) := by
  intro a0 a1 k
  have ih0 := foghornref20_Numbers.mono_l k
  unfold foghornref20_Numbers.f
  repeat' first
      | (with_reducible exact ih0 _ _ _)
      | (with_reducible exact LeO.refl _)
      | (with_reducible exact LeO.none _)
      | (with_reducible refine LeO.ite ?_ ?_)
      | (with_reducible refine LeO.bind ?_ (fun _ => ?_))
      | exact ih0 _ _ _
      | exact LeO.none _
      | refine LeO.ite ?_ ?_
      | refine LeO.bind ?_ (fun _ => ?_)
def mend_Within.j0 : Nat → ByteArray → ByteArray → Int → List Int → List Bool → Bool → Option (Bool × Int)
  | 0, _, _, _, _, _, _ => none
  | k + 1, x0, x1, x2, x3, x10, x29 => if x29 = true then (some (false, 1)) else ((reed_Whole.f k x1 x2).bind fun bt875 => (if bt875.1 = true then ((mend_within.f k x0 x1 x2 x10 (x3.length : Int)).bind fun t877 => (some (t877, 0))) else (some (false, 1))))
def mend_Within.f (k : Nat) (a0 : ByteArray) (a1 : ByteArray) (a2 : Int) (l3 : List Int) : Option (Bool × Int) := (mend_check.f k a0 a2 l3).bind fun bt871 => (if bt871.2 = 0 then (mend_Within.j0 k a0 a1 a2 l3 bt871.1 ((a1.size : Int) != (a0.size : Int))) else (mend_Within.j0 k a0 a1 a2 l3 bt871.1 true))
def al_step (i : Nat) (out : List S64) (ref : List Int) (m : ByteArray × List Int × List Int × Int) : List S64 × List Int := (out ++ [⟨m.1, m.2.1, m.2.2.1⟩], if m.2.2.2 = 9 then ref ++ [(i : Int)] else ref)
def al_run (k : Nat) (r : Int) : List ByteArray → List (List Int) → Nat → List S64 → List Int → Option (List S64 × List Int × Int)
  | [], _, _, out, ref => some (out, ref, 0)
  | _ :: _, [], _, _, _ => none
  | s :: ss, l :: ll, i, out, ref => (mend_Mend.f k s r l).bind fun m => if m.2.2.2 = 1 then some ([], [], 1) else al_run k r ss ll (i + 1) (al_step i out ref m).1 (al_step i out ref m).2
def mend_All.f (k : Nat) (l0 : List ByteArray) (a1 : Int) (l2 : List (List Int)) : Option (List S64 × List Int × Int) :=
  (reed_Check.f (wrap64 (a1 + 1)) a1).bind fun t => if t = 0 ∧ l0.length = l2.length ∧ l0.length ≤ 32768 then al_run k a1 l0 l2 0 [] [] else some ([], [], 1)
def foghornref20_places.l0 : Nat → List Int → Int → List Bool → Int → Option (List Bool × Bool)
  | 0, _, _, _, _ => none
  | k + 1, x0, x1, x6, x7 => if x7 < (x0.length : Int) then (if 0 ≤ x7 then (if (rd x0 x7) < 0 then (some (([] : List Bool), false)) else (if (rd x0 x7) ≥ x1 then (some (([] : List Bool), false)) else (if 0 ≤ (rd x0 x7) then (if (rd x0 x7) < (x6.length : Int) then (if rdOf false x6 (rd x0 x7) = true then (some (([] : List Bool), false)) else (foghornref20_places.l0 k x0 x1 (x6.set ((rd x0 x7) : Int).toNat true) (wrap64 (x7 + 1)))) else (none)) else (none)))) else (none)) else (some (x6, true))
def foghornref20_places.f (k : Nat) (l0 : List Int) (a1 : Int) : Option (List Bool × Bool) := if 0 ≤ a1 then (if (a1 : Int).toNat ≤ 281474976710656 then (foghornref20_places.l0 k l0 a1 (List.replicate (a1 : Int).toNat false) 0) else (none)) else (none)
def foghornref20_Wrong.f (k : Nat) (a0 : ByteArray) (a1 : Int) (l2 : List Int) : Option (List Bool × Int) := (foghornref19_Check.f (a0.size : Int) a1).bind fun t987 => (if t987 = 0 then ((foghornref20_places.f k l2 (a0.size : Int)).bind fun bt988 => (if bt988.2 = true then (some (bt988.1, 0)) else (some (([] : List Bool), 1)))) else (some (([] : List Bool), 1)))
def foghornref20_rising.l0 : Nat → List Bool → List Int → Int → Option (List Int)
  | 0, _, _, _ => none
  | k + 1, x0, x3, x4 => if x4 < (x0.length : Int) then (if 0 ≤ x4 then (if rdOf false x0 x4 = true then (if x3.length < 17592186044416 then (foghornref20_rising.l0 k x0 (x3 ++ [x4]) (wrap64 (x4 + 1))) else (none)) else (foghornref20_rising.l0 k x0 x3 (wrap64 (x4 + 1)))) else (none)) else (some x3)
def foghornref20_rising.f (k : Nat) (l0 : List Bool) : Option (List Int) := foghornref20_rising.l0 k l0 ([] : List Int) 0
def foghornref20_unlike.l0 : Nat → ByteArray → ByteArray → List Bool → List Bool → Int → Option (List Int)
  | 0, _, _, _, _, _ => none
  | k + 1, x0, x1, x2, x7, x8 => if x8 < (x0.size : Int) then (if 0 ≤ x8 then (if x8 < (x1.size : Int) then (if (bt x0 x8) = (bt x1 x8) then (if x8 < (x7.length : Int) then (foghornref20_unlike.l0 k x0 x1 x2 (x7.set (x8 : Int).toNat false) (wrap64 (x8 + 1))) else (none)) else (if x8 < (x2.length : Int) then (if x8 < (x7.length : Int) then (foghornref20_unlike.l0 k x0 x1 x2 (x7.set (x8 : Int).toNat (!(rdOf false x2 x8))) (wrap64 (x8 + 1))) else (none)) else (none))) else (none)) else (none)) else ((foghornref20_rising.f k x7).bind fun t1002 => (some t1002))
def foghornref20_unlike.f (k : Nat) (a0 : ByteArray) (a1 : ByteArray) (l2 : List Bool) : Option (List Int) := if 0 ≤ (a0.size : Int) then (if ((a0.size : Int) : Int).toNat ≤ 281474976710656 then (foghornref20_unlike.l0 k a0 a1 l2 (List.replicate ((a0.size : Int) : Int).toNat false) 0) else (none)) else (none)
def foghornref20_unlike.T5 : Bool × List (List Nat × List Nat) := (true, [([], []), ([], []), ([], []), ([], []), ([2, 3], [2, 3]), ([], []), ([], []), ([5, 6], [5, 6]), ([4, 7], [4, 7]), ([8], [8]), ([9], [9]), ([9], [9]), ([10, 11, 9], [9, 10, 11]), ([12, 9], [9, 12]), ([13, 9], [9, 13]), ([9, 14], [9, 14]), ([0, 1, 0, 1, 2, 3, 4, 5, 6, 7, 8, 9, 10, 11, 12, 13, 14, 15], [0, 1]), ([16, 15, 9, 0, 1, 2, 3, 4, 5, 6, 7, 8, 9, 10, 11, 12, 13, 14, 15], [15, 16])])
def foghornref20_unlike.B5 : List Nat := [0, 0, 0, 0, 12, 0, 0, 96, 252, 508, 1020, 1020, 4092, 8188, 16380, 32764, 65535, 131071]
theorem foghornref20_unlike.tab5 : rtab .any (opsOf Try.f96 5) = foghornref20_unlike.T5 := by kernel_rfl
theorem foghornref20_unlike.bits5 : waitsOk foghornref20_unlike.T5.2 foghornref20_unlike.B5 = true := by kernel_rfl
def foghornref20_Within.j0 : Nat → ByteArray → ByteArray → Int → List Int → List Bool → Bool → Option (Bool × Int)
  | 0, _, _, _, _, _, _ => none
  | k + 1, x0, x1, x2, x3, x10, x29 => if x29 = true then (some (false, 1)) else ((foghornref19_Whole.f k x1 x2).bind fun bt1009 => (if bt1009.2 = 0 then (if bt1009.1 = true then ((foghornref20_unlike.f k x0 x1 x10).bind fun t1011 => (some (decide ((wrap64 ((wrap64 (2 * (t1011.length : Int))) + (x3.length : Int))) ≤ x2), 0))) else (some (false, 1))) else (some (false, 1))))
def foghornref20_Within.f (k : Nat) (a0 : ByteArray) (a1 : ByteArray) (a2 : Int) (l3 : List Int) : Option (Bool × Int) := (foghornref20_Wrong.f k a0 a2 l3).bind fun bt1005 => (if bt1005.2 = 0 then (foghornref20_Within.j0 k a0 a1 a2 l3 bt1005.1 ((a1.size : Int) != (a0.size : Int))) else (foghornref20_Within.j0 k a0 a1 a2 l3 bt1005.1 true))
end Go.Proofs.Ytncoakokdajibaa.Q
