import Derived.Test.YtncoakokdajibaaMendMendsK0
import Derived.Test.YtncoakokdajibaaMendMendsF0
-- Printed by myprint.py (ours) over the kit's printer, out of the translation.
namespace Go.Proofs.Ytncoakokdajibaa.Q
open Go.RowKit Go.Proofs.YtncoakokdajibaaW.PrintWords Go.Proofs.YtncoakokdajibaaW.PrintLast Go.Proofs.YtncoakokdajibaaW.PrintMore
attribute [local go_sem] ArrW.ptrOf_slice unary_neg_float unary_neg_complex run_store_float run_store_complex max2_int min2_int max_two min_two max_three min_three max_four min_four   -- for this text's walks alone
set_option linter.unusedVariables false
set_option linter.unusedSimpArgs false
def foghornref20_Within.j0 : Nat → ByteArray → ByteArray → Int → List Int → List Bool → Bool → Option (Bool × Int)
  | 0, _, _, _, _, _, _ => none
  | k + 1, x0, x1, x2, x3, x10, x29 => if x29 = true then (some (false, 1)) else ((foghornref19_Whole.f k x1 x2).bind fun bt1009 => (if bt1009.2 = 0 then (if bt1009.1 = true then ((foghornref20_unlike.f k x0 x1 x10).bind fun t1011 => (some (decide ((wrap64 ((wrap64 (2 * (t1011.length : Int))) + (x3.length : Int))) ≤ x2), 0))) else (some (false, 1))) else (some (false, 1))))
def foghornref20_Within.f (k : Nat) (a0 : ByteArray) (a1 : ByteArray) (a2 : Int) (l3 : List Int) : Option (Bool × Int) := (foghornref20_Wrong.f k a0 a2 l3).bind fun bt1005 => (if bt1005.2 = 0 then (foghornref20_Within.j0 k a0 a1 a2 l3 bt1005.1 ((a1.size : Int) != (a0.size : Int))) else (foghornref20_Within.j0 k a0 a1 a2 l3 bt1005.1 true))
mutual
def foghornref18_Times.l0 : Nat → Int → Int → Int → Int → Option (Int)
  | 0, _, _, _, _ => none
  | k + 1, x0, x1, x5, x6 => if x6 < 8 then (foghornref18_Times.l1 k x0 x1 x5 x6 0) else (foghornref18_Times.l2 k x5 14)
def foghornref18_Times.l1 : Nat → Int → Int → Int → Int → Int → Option (Int)
  | 0, _, _, _, _, _ => none
  | k + 1, x0, x1, x5, x6, x7 => if x7 < 8 then (if 0 ≤ x6 then (if (Go.bits .and .u8 (shr .u8 x0 x6) 1) = 1 then (if 0 ≤ x7 then (if (Go.bits .and .u8 (shr .u8 x1 x7) 1) = 1 then (if 0 ≤ (wrap64 (x6 + x7)) then (foghornref18_Times.l1 k x0 x1 (Go.bits .xor .i64 x5 (shl .i64 1 (wrap64 (x6 + x7)))) x6 (wrap64 (x7 + 1))) else (none)) else (foghornref18_Times.l1 k x0 x1 x5 x6 (wrap64 (x7 + 1)))) else (none)) else (foghornref18_Times.l1 k x0 x1 x5 x6 (wrap64 (x7 + 1)))) else (none)) else (foghornref18_Times.l0 k x0 x1 x5 (wrap64 (x6 + 1)))
def foghornref18_Times.l2 : Nat → Int → Int → Option (Int)
  | 0, _, _ => none
  | k + 1, x5, x8 => if x8 ≥ 8 then (if 0 ≤ x8 then (if (Go.bits .and .i64 (shr .i64 x5 x8) 1) = 1 then (if 0 ≤ (wrap64 (x8 - 8)) then (foghornref18_Times.l2 k (Go.bits .xor .i64 x5 (shl .i64 285 (wrap64 (x8 - 8)))) (wrap64 (x8 - 1))) else (none)) else (foghornref18_Times.l2 k x5 (wrap64 (x8 - 1)))) else (none)) else (some ((x5) % 256))
end
def foghornref18_Times.f (k : Nat) (a0 : Int) (a1 : Int) : Option (Int) := foghornref18_Times.l0 k a0 a1 0 0
mutual
def foghornref18_Power.j0 : Nat → Int → Int → Option (Int × Int)
  | 0, _, _ => none
  | k + 1, x0, x1 => foghornref18_Power.l0 k x0 x1 1 0
def foghornref18_Power.l0 : Nat → Int → Int → Int → Int → Option (Int × Int)
  | 0, _, _, _, _ => none
  | k + 1, x0, x1, x6, x7 => if x7 < x1 then ((foghornref18_Times.f k x6 x0).bind fun t1014 => (foghornref18_Power.l0 k x0 x1 t1014 (wrap64 (x7 + 1)))) else (some (x6, 0))
end
def foghornref18_Power.f (k : Nat) (a0 : Int) (a1 : Int) : Option (Int × Int) := if a0 = 0 then (if a1 < 0 then (some (0, 6)) else (if a1 = 0 then (some (1, 0)) else (some (0, 0)))) else (if (Int.tmod a1 255) < 0 then (foghornref18_Power.j0 k a0 (wrap64 ((Int.tmod a1 255) + 255))) else (foghornref18_Power.j0 k a0 (Int.tmod a1 255)))
def foghornref18_Exp.f (k : Nat) (a0 : Int) : Option (Int) := (foghornref18_Power.f k 2 a0).bind fun bt1015 => (some bt1015.1)
def foghornref20_x.f (k : Nat) (a0 : Int) (a1 : Int) : Option (Int) := (foghornref18_Exp.f k (wrap64 ((wrap64 (a1 - 1)) - a0))).bind fun t1017 => (some t1017)
mutual
def foghornref20_Locator.j0 : Nat → List Int → Int → Bool → Option (List Int × Int)
  | 0, _, _, _ => none
  | k + 1, x0, x1, x17 => if x17 = true then (some (([] : List Int), 1)) else ((foghornref20_places.f k x0 x1).bind fun bt1018 => (if bt1018.2 = true then (foghornref20_Locator.l0 k x0 x1 (([1] : List Int)) 0) else (some (([] : List Int), 1))))
def foghornref20_Locator.l0 : Nat → List Int → Int → List Int → Int → Option (List Int × Int)
  | 0, _, _, _, _ => none
  | k + 1, x0, x1, x8, x9 => if x9 < (x0.length : Int) then ((some (([] : List Int) : List Int)).bind fun y1025 => (if y1025.length + x8.length < 140737488355328 then ((some (y1025 ++ x8 : List Int)).bind fun y1028 => (if y1028.length < 140737488355328 then (foghornref20_Locator.l1 k x0 x1 x8 x9 (y1028 ++ [0]) 0) else (none))) else (none))) else (some (x8, 0))
def foghornref20_Locator.l1 : Nat → List Int → Int → List Int → Int → List Int → Int → Option (List Int × Int)
  | 0, _, _, _, _, _, _ => none
  | k + 1, x0, x1, x8, x9, x10, x11 => if x11 < (x8.length : Int) then (if 0 ≤ (wrap64 (x11 + 1)) then (if (wrap64 (x11 + 1)) < (x10.length : Int) then (if 0 ≤ x11 then (if 0 ≤ x9 then (if x9 < (x0.length : Int) then ((foghornref20_x.f k (rd x0 x9) x1).bind fun t1037 => ((foghornref18_Times.f k (rd x8 x11) t1037).bind fun t1038 => (foghornref20_Locator.l1 k x0 x1 x8 x9 (x10.set ((wrap64 (x11 + 1)) : Int).toNat (Go.bits .xor .u8 (rd x10 (wrap64 (x11 + 1))) t1038)) (wrap64 (x11 + 1))))) else (none)) else (none)) else (none)) else (none)) else (none)) else (foghornref20_Locator.l0 k x0 x1 x10 (wrap64 (x9 + 1)))
end
def foghornref20_Locator.f (k : Nat) (l0 : List Int) (a1 : Int) : Option (List Int × Int) := if a1 < 1 then (foghornref20_Locator.j0 k l0 a1 true) else (foghornref20_Locator.j0 k l0 a1 (decide (a1 > 255)))
def foghornref20_Locator.T14 : Bool × List (List Nat × List Nat) := (true, [([], []), ([], []), ([1], [1]), ([], []), ([], []), ([4], [4]), ([3, 5], [3, 5]), ([6], [6]), ([], []), ([], []), ([8, 9], [8, 9]), ([10], [10]), ([], []), ([], []), ([12, 13], [12, 13]), ([14], [14]), ([], []), ([15, 16], [15, 16]), ([11, 17, 17], [11, 17]), ([7, 18], [7, 18]), ([0, 2, 0, 1, 2, 3, 4, 5, 6, 7, 8, 9, 10, 11, 12, 13, 14, 15, 16, 17, 18, 19], [0, 2]), ([20, 19, 18, 0, 1, 2, 3, 4, 5, 6, 7, 8, 9, 10, 11, 12, 13, 14, 15, 16, 17, 18, 19], [19, 20])])
def foghornref20_Locator.B14 : List Nat := [0, 0, 2, 0, 0, 16, 56, 120, 0, 0, 768, 1792, 0, 0, 12288, 28672, 0, 126976, 261888, 524280, 1048575, 2097151]
theorem foghornref20_Locator.tab14 : rtab .any (opsOf Try.f59 14) = foghornref20_Locator.T14 := by kernel_rfl
theorem foghornref20_Locator.bits14 : waitsOk foghornref20_Locator.T14.2 foghornref20_Locator.B14 = true := by kernel_rfl
def foghornref18_Over.l0 : Nat → Int → Int → Int → Option (Int × Int)
  | 0, _, _, _ => none
  | k + 1, x0, x1, x6 => if x6 < 256 then ((foghornref18_Times.f k ((x6) % 256) x1).bind fun t1040 => (if t1040 = x0 then (some ((x6) % 256, 0)) else (foghornref18_Over.l0 k x0 x1 (wrap64 (x6 + 1))))) else (some (0, 6))
def foghornref18_Over.f (k : Nat) (a0 : Int) (a1 : Int) : Option (Int × Int) := if a1 = 0 then (some (0, 6)) else (foghornref18_Over.l0 k a0 a1 0)
def foghornref20_inverse.f (k : Nat) (a0 : Int) : Option (Int) := (foghornref18_Over.f k 1 a0).bind fun bt1041 => (some bt1041.1)
def sv_find (n : Nat) (rows : Nat → List Int) (c : Nat) : Nat → Nat → Nat
  | 0, p => p
  | d + 1, p => if rd (rows p) (c : Int) = 0 then sv_find n rows c d (p + 1) else p
def sv_upd {α : Type} (f : Nat → α) (i : Nat) (x : α) : Nat → α := fun a => if a = i then x else f a
def sv_swap {α : Type} (f : Nat → α) (p c : Nat) : Nat → α := fun a => if a = c then f p else if a = p then f c else f a
def sv_scale (k : Nat) (b : Int) : Nat → Nat → List Int → Option (List Int)
  | 0, _, row => some row
  | d + 1, j, row => (foghornref18_Times.f k (rd row (j : Int)) b).bind fun t => sv_scale k b d (j + 1) (row.set j t)
def sv_add (k : Nat) (f : Int) (rc : List Int) : Nat → Nat → List Int → Option (List Int)
  | 0, _, row => some row
  | d + 1, j, row => (foghornref18_Times.f k f (rd rc (j : Int))).bind fun t => sv_add k f rc d (j + 1) (row.set j (Go.bits .xor .u8 (rd row (j : Int)) t))
def sv_elim (k n c : Nat) : Nat → Nat → (Nat → List Int) → List Int → Option ((Nat → List Int) × List Int)
  | 0, _, rows, y => some (rows, y)
  | d + 1, i, rows, y => if i = c ∨ rd (rows i) (c : Int) = 0 then sv_elim k n c d (i + 1) rows y else
      (sv_add k (rd (rows i) (c : Int)) (rows c) n 0 (rows i)).bind fun r => (foghornref18_Times.f k (rd (rows i) (c : Int)) (rd y (c : Int))).bind fun t => sv_elim k n c d (i + 1) (sv_upd rows i r) (y.set i (Go.bits .xor .u8 (rd y (i : Int)) t))
def sv_yswap (y : List Int) (p c : Nat) : List Int := (y.set p (rd y (c : Int))).set c (rd y (p : Int))
def sv_main (k n : Nat) : Nat → Nat → (Nat → List Int) → List Int → Option (Option (List Int))
  | 0, _, _, y => some (some y)
  | d + 1, c, rows, y => if sv_find n rows c (n - c) c = n then some none else
      (foghornref20_inverse.f k (rd (rows (sv_find n rows c (n - c) c)) (c : Int))).bind fun b => (sv_scale k b n 0 (rows (sv_find n rows c (n - c) c))).bind fun rc => (foghornref18_Times.f k (rd y (sv_find n rows c (n - c) c : Int)) b).bind fun t =>
        (sv_elim k n c n 0 (sv_upd (sv_swap rows (sv_find n rows c (n - c) c) c) c rc) ((sv_yswap y (sv_find n rows c (n - c) c) c).set c t)).bind fun q => sv_main k n d (c + 1) q.1 q.2
def foghornref20_solve.f (k : Nat) (l0 : List (List Int)) (l1 : List Int) : Option (List Int × Bool) :=
  if (∀ r ∈ l0, r.length = l0.length) ∧ l1.length = l0.length ∧ l0.length ≤ 1000 then (sv_main k l0.length l0.length 0 (fun i => l0.getD i []) l1).map (fun o => match o with | none => ([], false) | some y => (y, true)) else none
mutual
def foghornref20_errors.l0 : Nat → List Int → Int → Int → Int → List Bool → List (List Int) → List Int → Int → Option (List Int × Bool)
  | 0, _, _, _, _, _, _, _, _ => none
  | k + 1, x0, x1, x2, x3, x4, x12, x13, x14 => if x14 < (wrap64 (x1 + (wrap64 (2 * x2)))) then (foghornref20_errors.l1 k x0 x1 x2 x3 x4 x12 x13 x14 ([] : List Int) 1) else ((foghornref20_solve.f k x12 x13).bind fun bt1054 => (if bt1054.2 = true then (foghornref20_errors.l2 k x2 x3 x4 bt1054.1 ([] : List Int) 0) else (some (([] : List Int), false))))
def foghornref20_errors.l1 : Nat → List Int → Int → Int → Int → List Bool → List (List Int) → List Int → Int → List Int → Int → Option (List Int × Bool)
  | 0, _, _, _, _, _, _, _, _, _, _ => none
  | k + 1, x0, x1, x2, x3, x4, x12, x13, x14, x15, x16 => if x16 ≤ x2 then (if 0 ≤ (wrap64 (x14 - x16)) then (if (wrap64 (x14 - x16)) < (x0.length : Int) then (if x15.length < 140737488355328 then (foghornref20_errors.l1 k x0 x1 x2 x3 x4 x12 x13 x14 (x15 ++ [rd x0 (wrap64 (x14 - x16))]) (wrap64 (x16 + 1))) else (none)) else (none)) else (none)) else (if x12.length < 5864062014805 then (if 0 ≤ x14 then (if x14 < (x0.length : Int) then (if x13.length < 140737488355328 then (foghornref20_errors.l0 k x0 x1 x2 x3 x4 (x12 ++ [x15]) (x13 ++ [rd x0 x14]) (wrap64 (x14 + 1))) else (none)) else (none)) else (none)) else (none))
def foghornref20_errors.l2 : Nat → Int → Int → List Bool → List Int → List Int → Int → Option (List Int × Bool)
  | 0, _, _, _, _, _, _ => none
  | k + 1, x2, x3, x4, x17, x19, x20 => if x20 < x3 then ((foghornref20_x.f k x20 x3).bind fun t1058 => ((foghornref20_inverse.f k t1058).bind fun t1059 => (foghornref20_errors.l3 k x2 x3 x4 x17 x19 x20 t1059 1 t1059 0))) else (some (x19, true))
def foghornref20_errors.l3 : Nat → Int → Int → List Bool → List Int → List Int → Int → Int → Int → Int → Int → Option (List Int × Bool)
  | 0, _, _, _, _, _, _, _, _, _, _ => none
  | k + 1, x2, x3, x4, x17, x19, x20, x21, x22, x23, x24 => if x24 < x2 then (if 0 ≤ x24 then (if x24 < (x17.length : Int) then ((foghornref18_Times.f k (rd x17 x24) x23).bind fun t1061 => ((foghornref18_Times.f k x23 x21).bind fun t1062 => (foghornref20_errors.l3 k x2 x3 x4 x17 x19 x20 x21 (Go.bits .xor .u8 x22 t1061) t1062 (wrap64 (x24 + 1))))) else (none)) else (none)) else (if x22 = 0 then (if 0 ≤ x20 then (if x20 < (x4.length : Int) then (if rdOf false x4 x20 = true then (foghornref20_errors.l2 k x2 x3 x4 x17 x19 (wrap64 (x20 + 1))) else (if x19.length < 17592186044416 then (foghornref20_errors.l2 k x2 x3 x4 x17 (x19 ++ [x20]) (wrap64 (x20 + 1))) else (none))) else (none)) else (none)) else (foghornref20_errors.l2 k x2 x3 x4 x17 x19 (wrap64 (x20 + 1))))
end
def foghornref20_errors.f (k : Nat) (l0 : List Int) (a1 : Int) (a2 : Int) (a3 : Int) (l4 : List Bool) : Option (List Int × Bool) := foghornref20_errors.l0 k l0 a1 a2 a3 l4 ([] : List (List Int)) ([] : List Int) (wrap64 (a1 + a2))
mutual
def foghornref20_filled.l0 : Nat → ByteArray → Int → List Int → List Int → List (List Int) → Int → Option (ByteArray × Bool)
  | 0, _, _, _, _, _, _ => none
  | k + 1, x0, x1, x2, x3, x10, x11 => if x11 < (x2.length : Int) then (foghornref20_filled.l1 k x0 x1 x2 x3 x10 x11 ([] : List Int) 0) else ((some (([] : List Int) : List Int)).bind fun y1077 => (if 0 ≤ (x2.length : Int) then (if (x2.length : Int) ≤ (x3.length : Int) then (if y1077.length + (x3.take ((x2.length : Int) : Int).toNat).length < 140737488355328 then ((foghornref20_solve.f k x10 (y1077 ++ (x3.take ((x2.length : Int) : Int).toNat))).bind fun bt1084 => (if bt1084.2 = true then (if x0.size ≤ 9223372036854775807 then (foghornref20_filled.l2 k x1 x2 bt1084.1 (bytesOf x0) 0) else (none)) else (some ((⟨#[]⟩ : ByteArray), false)))) else (none)) else (none)) else (none)))
def foghornref20_filled.l1 : Nat → ByteArray → Int → List Int → List Int → List (List Int) → Int → List Int → Int → Option (ByteArray × Bool)
  | 0, _, _, _, _, _, _, _, _ => none
  | k + 1, x0, x1, x2, x3, x10, x11, x12, x13 => if x13 < (x2.length : Int) then (if 0 ≤ x13 then ((foghornref20_x.f k (rd x2 x13) (x0.size : Int)).bind fun t1068 => ((foghornref18_Power.f k t1068 x11).bind fun bt1069 => (if x12.length < 140737488355328 then (foghornref20_filled.l1 k x0 x1 x2 x3 x10 x11 (x12 ++ [bt1069.1]) (wrap64 (x13 + 1))) else (none)))) else (none)) else (if x10.length < 5864062014805 then (foghornref20_filled.l0 k x0 x1 x2 x3 (x10 ++ [x12]) (wrap64 (x11 + 1))) else (none))
def foghornref20_filled.l2 : Nat → Int → List Int → List Int → List Int → Int → Option (ByteArray × Bool)
  | 0, _, _, _, _, _ => none
  | k + 1, x1, x2, x16, x18, x19 => if x19 < (x2.length : Int) then (if 0 ≤ x19 then (if 0 ≤ (rd x2 x19) then (if (rd x2 x19) < (x18.length : Int) then (if x19 < (x16.length : Int) then (foghornref20_filled.l2 k x1 x2 x16 (x18.set ((rd x2 x19) : Int).toNat (Go.bits .xor .u8 (rd x18 (rd x2 x19)) (rd x16 x19))) (wrap64 (x19 + 1))) else (none)) else (none)) else (none)) else (none)) else ((foghornref19_Whole.f k (strOfNums x18) x1).bind fun bt1096 => (some (strOfNums x18, bt1096.1)))
end
def foghornref20_filled.f (k : Nat) (a0 : ByteArray) (a1 : Int) (l2 : List Int) (l3 : List Int) : Option (ByteArray × Bool) := if (l2.length : Int) > a1 then (some ((⟨#[]⟩ : ByteArray), false)) else (foghornref20_filled.l0 k a0 a1 l2 l3 ([] : List (List Int)) 0)
def foghornref20_filled.T21 : Bool × List (List Nat × List Nat) := (true, [([], []), ([], []), ([], []), ([1, 2], [1, 2]), ([3], [3]), ([], []), ([], []), ([], []), ([6, 7], [6, 7]), ([8], [8]), ([5, 9], [5, 9]), ([10], [10]), ([], []), ([], []), ([12, 13], [12, 13]), ([14], [14]), ([11, 15], [11, 15]), ([0, 4, 0, 1, 2, 3, 4, 5, 6, 7, 8, 9, 10, 11, 12, 13, 14, 15, 16], [0, 4]), ([17, 16, 0, 1, 2, 3, 4, 5, 6, 7, 8, 9, 10, 11, 12, 13, 14, 15, 16], [16, 17])])
def foghornref20_filled.B21 : List Nat := [0, 0, 0, 6, 14, 0, 0, 0, 192, 448, 992, 2016, 0, 0, 12288, 28672, 65504, 131071, 262143]
theorem foghornref20_filled.tab21 : rtab .any (opsOf Try.f94 21) = foghornref20_filled.T21 := by kernel_rfl
theorem foghornref20_filled.bits21 : waitsOk foghornref20_filled.T21.2 foghornref20_filled.B21 = true := by kernel_rfl
mutual
def foghornref20_Mend.l0 : Nat → ByteArray → Int → List Int → List Bool → Int → List Int → List Int → List Int → Int → Option (ByteArray × List Int × List Int × Int)
  | 0, _, _, _, _, _, _, _, _, _ => none
  | k + 1, x0, x1, x2, x8, x10, x11, x13, x15, x16 => if x16 < x1 then (foghornref20_Mend.l1 k x0 x1 x2 x8 x10 x11 x13 x15 x16 0) else (foghornref20_Mend.l2 k x0 x1 x2 x8 x10 x11 x15 (wrap64 (Int.tdiv (wrap64 (x1 - x10)) 2)))
def foghornref20_Mend.l1 : Nat → ByteArray → Int → List Int → List Bool → Int → List Int → List Int → List Int → Int → Int → Option (ByteArray × List Int × List Int × Int)
  | 0, _, _, _, _, _, _, _, _, _, _ => none
  | k + 1, x0, x1, x2, x8, x10, x11, x13, x15, x16, x17 => if x17 < (x13.length : Int) then (if x17 ≤ x16 then (if 0 ≤ x16 then (if x16 < (x15.length : Int) then (if 0 ≤ x17 then (if 0 ≤ (wrap64 (x16 - x17)) then (if (wrap64 (x16 - x17)) < (x11.length : Int) then ((foghornref18_Times.f k (rd x13 x17) (rd x11 (wrap64 (x16 - x17)))).bind fun t1117 => (foghornref20_Mend.l1 k x0 x1 x2 x8 x10 x11 x13 (x15.set (x16 : Int).toNat (Go.bits .xor .u8 (rd x15 x16) t1117)) x16 (wrap64 (x17 + 1)))) else (none)) else (none)) else (none)) else (none)) else (none)) else (foghornref20_Mend.l0 k x0 x1 x2 x8 x10 x11 x13 x15 (wrap64 (x16 + 1)))) else (foghornref20_Mend.l0 k x0 x1 x2 x8 x10 x11 x13 x15 (wrap64 (x16 + 1)))
def foghornref20_Mend.l2 : Nat → ByteArray → Int → List Int → List Bool → Int → List Int → List Int → Int → Option (ByteArray × List Int × List Int × Int)
  | 0, _, _, _, _, _, _, _, _ => none
  | k + 1, x0, x1, x2, x8, x10, x11, x15, x18 => if x18 ≥ 0 then ((foghornref20_errors.f k x15 x10 x18 (x0.size : Int) x8).bind fun bt1119 => (if bt1119.2 = true then ((foghornref20_rising.f k x8).bind fun t1123 => (if t1123.length + bt1119.1.length < 17592186044416 then ((foghornref20_filled.f k x0 x1 (t1123 ++ bt1119.1) x11).bind fun bt1129 => (if bt1129.2 = true then ((foghornref20_Within.f k x0 bt1129.1 x1 x2).bind fun bt1131 => (if bt1131.1 = true then ((foghornref20_unlike.f k x0 bt1129.1 x8).bind fun t1133 => ((foghornref20_rising.f k x8).bind fun t1136 => (some (bt1129.1, t1133, t1136, 0)))) else (some ((⟨#[]⟩ : ByteArray), ([] : List Int), ([] : List Int), 9)))) else (some ((⟨#[]⟩ : ByteArray), ([] : List Int), ([] : List Int), 9)))) else (none))) else (foghornref20_Mend.l2 k x0 x1 x2 x8 x10 x11 x15 (wrap64 (x18 - 1))))) else (some ((⟨#[]⟩ : ByteArray), ([] : List Int), ([] : List Int), 9))
end
def foghornref20_Mend.f (k : Nat) (a0 : ByteArray) (a1 : Int) (l2 : List Int) : Option (ByteArray × List Int × List Int × Int) := (foghornref20_Wrong.f k a0 a1 l2).bind fun bt1099 => (if bt1099.2 = 0 then (if (l2.length : Int) > a1 then (some ((⟨#[]⟩ : ByteArray), ([] : List Int), ([] : List Int), 9)) else ((foghornref19_Syndromes.f k a0 a1).bind fun bt1103 => ((foghornref20_Locator.f k l2 (a0.size : Int)).bind fun bt1107 => (if 0 ≤ a1 then (if (a1 : Int).toNat ≤ 281474976710656 then (foghornref20_Mend.l0 k a0 a1 l2 bt1099.1 (l2.length : Int) bt1103.1 bt1107.1 (List.replicate (a1 : Int).toNat 0) 0) else (none)) else (none))))) else (some ((⟨#[]⟩ : ByteArray), ([] : List Int), ([] : List Int), bt1099.2)))
def foghornref20_Mend.T16 : Bool × List (List Nat × List Nat) := (true, [([], []), ([], []), ([], []), ([], []), ([2, 3], [2, 3]), ([4], [4]), ([], []), ([], []), ([6, 7], [6, 7]), ([8], [8]), ([], []), ([], []), ([], []), ([11, 12], [11, 12]), ([10, 13], [10, 13]), ([14], [14]), ([9, 15], [9, 15]), ([5, 16], [5, 16]), ([0, 1, 0, 1, 2, 3, 4, 5, 6, 7, 8, 9, 10, 11, 12, 13, 14, 15, 16, 17], [0, 1]), ([18, 17, 16, 0, 1, 2, 3, 4, 5, 6, 7, 8, 9, 10, 11, 12, 13, 14, 15, 16, 17], [17, 18])])
def foghornref20_Mend.B16 : List Nat := [0, 0, 0, 0, 12, 28, 0, 0, 192, 448, 0, 0, 0, 6144, 15360, 31744, 65472, 131068, 262143, 524287]
theorem foghornref20_Mend.tab16 : rtab .any (opsOf Try.f55 16) = foghornref20_Mend.T16 := by kernel_rfl
theorem foghornref20_Mend.bits16 : waitsOk foghornref20_Mend.T16.2 foghornref20_Mend.B16 = true := by kernel_rfl
def foghornlaw20_alike.f (k : Nat) (a0_0 : ByteArray) (l0_1 : List Int) (l0_2 : List Int) (a1_0 : ByteArray) (l1_1 : List Int) (l1_2 : List Int) : Option (Bool) := if a0_0.toList = a1_0.toList then ((foghornref20_Numbers.f k l0_1 l1_1).bind fun t1141 => (if t1141 = true then ((foghornref20_Numbers.f k l0_2 l1_2).bind fun t1142 => (some t1142)) else (some false))) else (some false)
mutual
def foghornlaw20_spoil.l0 : Nat → Int → ByteArray → List Int → List Int → Option (Unit)
  | 0, _, _, _, _ => none
  | k + 1, x2, x1144000, x1144001, x1144002 => if x2 < (x1144001.length : Int) then (if 0 ≤ x2 then (foghornlaw20_spoil.l0 k (wrap64 (x2 + 1)) x1144000 (x1144001.set (x2 : Int).toNat (-1)) x1144002) else (none)) else (foghornlaw20_spoil.l1 k 0 x1144000 x1144001 x1144002)
def foghornlaw20_spoil.l1 : Nat → Int → ByteArray → List Int → List Int → Option (Unit)
  | 0, _, _, _, _ => none
  | k + 1, x3, x1144000, x1144001, x1144002 => if x3 < (x1144002.length : Int) then (if 0 ≤ x3 then (foghornlaw20_spoil.l1 k (wrap64 (x3 + 1)) x1144000 x1144001 (x1144002.set (x3 : Int).toNat (-2))) else (none)) else (foghornlaw20_spoil.l2 k 0 x1144000 x1144001 x1144002)
def foghornlaw20_spoil.l2 : Nat → Int → ByteArray → List Int → List Int → Option (Unit)
  | 0, _, _, _, _ => none
  | k + 1, x4, x1144000, x1144001, x1144002 => if x4 < 20 then (if x1144001.length < 17592186044416 then (if x1144002.length < 17592186044416 then (foghornlaw20_spoil.l2 k (wrap64 (x4 + 1)) x1144000 (x1144001 ++ [(-3)]) (x1144002 ++ [(-4)])) else (none)) else (none)) else (some ())
end
def foghornlaw20_spoil.f (k : Nat) (a0_0 : ByteArray) (l0_1 : List Int) (l0_2 : List Int) : Option (Unit) := foghornlaw20_spoil.l0 k 0 a0_0 l0_1 l0_2
def mend_Locator.j0 : Nat → List Int → Int → Bool → Option (List Int × Int)
  | 0, _, _, _ => none
  | k + 1, x0, x1, x13 => if x13 = true then (some (([] : List Int), 1)) else ((mend_marked.f k x0 x1).bind fun bt1152 => (if bt1152.2 = true then ((mend_locator.f k x0 x1).bind fun t1156 => (some (t1156, 0))) else (some (([] : List Int), 1))))
def mend_Locator.f (k : Nat) (l0 : List Int) (a1 : Int) : Option (List Int × Int) := if a1 < 1 then (mend_Locator.j0 k l0 a1 true) else (mend_Locator.j0 k l0 a1 (decide (a1 > 255)))
mutual
def foghornlaw20_MendMends.l0 : Nat → ByteArray → Int → ByteArray → Int → Int → List Int → Int → Option (Bool)
  | 0, _, _, _, _, _, _, _ => none
  | k + 1, x0, x1, x3, x4, x11, x12, x13 => if x13 < 2 then ((some (([] : List Int) : List Int)).bind fun y1171 => (if y1171.length + x12.length < 17592186044416 then ((some (y1171 ++ x12 : List Int)).bind fun y1174 => ((foghornref20_Mend.f k x0 x1 y1174).bind fun bt1177 => ((mend_Mend.f k x0 x1 x12).bind fun bt1186 => ((mend_Mend.f k x0 x1 x12).bind fun bt1195 => (if bt1186.2.2.2 = bt1177.2.2.2 then (if bt1195.2.2.2 = bt1177.2.2.2 then ((foghornlaw20_alike.f k bt1186.1 bt1186.2.1 bt1186.2.2.1 bt1177.1 bt1177.2.1 bt1177.2.2.1).bind fun t1204 => (if t1204 = true then ((foghornlaw20_alike.f k bt1195.1 bt1195.2.1 bt1195.2.2.1 bt1177.1 bt1177.2.1 bt1177.2.2.1).bind fun t1205 => (if t1205 = true then ((foghornref20_Numbers.f k x12 y1174).bind fun t1206 => (if t1206 = true then (if (wrap64 (x11 + 1)) = (x12.length : Int) + 1 then ((some (x12 ++ [987] : List Int)).bind fun y1207 => (if 0 ≤ x11 then (if x11 < (y1207.length : Int) then (foghornlaw20_MendMends.j1 k x0 x1 x3 x4 x11 x12 x13 y1174 ((rd y1207 x11) != 987) bt1177.1 bt1177.2.1 bt1177.2.2.1 bt1186.1 bt1186.2.1 bt1186.2.2.1 bt1195.1 bt1195.2.1 bt1195.2.2.1) else (none)) else (none))) else (none)) else (foghornlaw20_MendMends.j1 k x0 x1 x3 x4 x11 x12 x13 y1174 true bt1177.1 bt1177.2.1 bt1177.2.2.1 bt1186.1 bt1186.2.1 bt1186.2.2.1 bt1195.1 bt1195.2.1 bt1195.2.2.1))) else (foghornlaw20_MendMends.j1 k x0 x1 x3 x4 x11 x12 x13 y1174 true bt1177.1 bt1177.2.1 bt1177.2.2.1 bt1186.1 bt1186.2.1 bt1186.2.2.1 bt1195.1 bt1195.2.1 bt1195.2.2.1))) else (foghornlaw20_MendMends.j1 k x0 x1 x3 x4 x11 x12 x13 y1174 true bt1177.1 bt1177.2.1 bt1177.2.2.1 bt1186.1 bt1186.2.1 bt1186.2.2.1 bt1195.1 bt1195.2.1 bt1195.2.2.1))) else (foghornlaw20_MendMends.j1 k x0 x1 x3 x4 x11 x12 x13 y1174 true bt1177.1 bt1177.2.1 bt1177.2.2.1 bt1186.1 bt1186.2.1 bt1186.2.2.1 bt1195.1 bt1195.2.1 bt1195.2.2.1)) else (foghornlaw20_MendMends.j1 k x0 x1 x3 x4 x11 x12 x13 y1174 true bt1177.1 bt1177.2.1 bt1177.2.2.1 bt1186.1 bt1186.2.1 bt1186.2.2.1 bt1195.1 bt1195.2.1 bt1195.2.2.1)))))) else (none))) else (some true)
def foghornlaw20_MendMends.j1 : Nat → ByteArray → Int → ByteArray → Int → Int → List Int → Int → List Int → Bool → ByteArray → List Int → List Int → ByteArray → List Int → List Int → ByteArray → List Int → List Int → Option (Bool)
  | 0, _, _, _, _, _, _, _, _, _, _, _, _, _, _, _, _, _, _ => none
  | k + 1, x0, x1, x3, x4, x11, x12, x13, x14, x103, x1186000, x1186001, x1186002, x1195000, x1195001, x1195002, x1204000, x1204001, x1204002 => if x103 = true then (some false) else ((foghornlaw20_spoil.f k x1195000 x1195001 x1195002).bind fun _ => ((foghornlaw20_alike.f k x1204000 x1204001 x1204002 x1186000 x1186001 x1186002).bind fun t1212 => (if t1212 = true then ((foghornref20_Within.f k x0 x3 x1 x14).bind fun bt1213 => ((mend_Within.f k x0 x3 x1 x12).bind fun bt1215 => (if (bt1213.1 != bt1215.1) = true then (foghornlaw20_MendMends.j2 k x0 x1 x3 x4 x11 x12 x13 x14 true) else (foghornlaw20_MendMends.j2 k x0 x1 x3 x4 x11 x12 x13 x14 (bt1213.2 != bt1215.2))))) else (some false))))
def foghornlaw20_MendMends.j2 : Nat → ByteArray → Int → ByteArray → Int → Int → List Int → Int → List Int → Bool → Option (Bool)
  | 0, _, _, _, _, _, _, _, _, _ => none
  | k + 1, x0, x1, x3, x4, x11, x12, x13, x14, x133 => if x133 = true then (some false) else ((foghornref20_Locator.f k x14 x4).bind fun bt1217 => ((mend_Locator.f k x12 x4).bind fun bt1221 => (if bt1217.2 = bt1221.2 then (foghornlaw20_MendMends.j3 k x0 x1 x3 x4 x11 x12 x13 bt1221.1 ((strOfNums bt1217.1).toList != (strOfNums bt1221.1).toList)) else (foghornlaw20_MendMends.j3 k x0 x1 x3 x4 x11 x12 x13 bt1221.1 true))))
def foghornlaw20_MendMends.j3 : Nat → ByteArray → Int → ByteArray → Int → Int → List Int → Int → List Int → Bool → Option (Bool)
  | 0, _, _, _, _, _, _, _, _, _ => none
  | k + 1, x0, x1, x3, x4, x11, x12, x13, x27, x155 => if x155 = true then (some false) else (foghornlaw20_MendMends.l1 k x0 x1 x3 x4 x11 x12 x13 x27 0)
def foghornlaw20_MendMends.l1 : Nat → ByteArray → Int → ByteArray → Int → Int → List Int → Int → List Int → Int → Option (Bool)
  | 0, _, _, _, _, _, _, _, _, _ => none
  | k + 1, x0, x1, x3, x4, x11, x12, x13, x27, x29 => if x29 < (x27.length : Int) then (if 0 ≤ x29 then (foghornlaw20_MendMends.l1 k x0 x1 x3 x4 x11 x12 x13 (x27.set (x29 : Int).toNat 99) (wrap64 (x29 + 1))) else (none)) else (foghornlaw20_MendMends.l2 k x0 x1 x3 x4 x11 x12 x13 0)
def foghornlaw20_MendMends.l2 : Nat → ByteArray → Int → ByteArray → Int → Int → List Int → Int → Int → Option (Bool)
  | 0, _, _, _, _, _, _, _, _ => none
  | k + 1, x0, x1, x3, x4, x11, x12, x13, x30 => if x30 < x11 then (if 0 ≤ x30 then (if x30 < (x12.length : Int) then (foghornlaw20_MendMends.l2 k x0 x1 x3 x4 x11 (x12.set (x30 : Int).toNat (Int.tmod (wrap64 ((rd x12 x30) + 1)) 3)) x13 (wrap64 (x30 + 1))) else (none)) else (none)) else (foghornlaw20_MendMends.l0 k x0 x1 x3 x4 x11 x12 (wrap64 (x13 + 1)))
end
def foghornlaw20_MendMends.f (k : Nat) (a0 : ByteArray) (a1 : Int) (l2 : List Int) (a3 : ByteArray) (a4 : Int) : Option (Bool) := (some (([] : List Int) : List Int)).bind fun y1159 => (if y1159.length + l2.length < 17592186044416 then ((some (y1159 ++ l2 : List Int)).bind fun y1162 => (if y1162.length < 17592186044416 then (if (l2.length : Int) ≤ ((y1162 ++ [987]).length : Int) then (foghornlaw20_MendMends.l0 k a0 a1 a3 a4 (l2.length : Int) (y1162) 0) else (none)) else (none))) else (none))
def foghornlaw20_MendMends.Pure : Prop := ∀ (a0 : ByteArray) (a1 : Int) (l2 : List Int) (a3 : ByteArray) (a4 : Int), a0.size ≤ 140737488351232 → (Lit.int .i64 a1).wf = true → l2.length ≤ maxLen → l2.length * 8 ≤ 140737488351232 → (∀ x ∈ l2, (Lit.int .i64 x).wf = true) → a3.size ≤ 140737488351232 → (Lit.int .i64 a4).wf = true → ∃ k, foghornlaw20_MendMends.f k a0 a1 l2 a3 a4 = some true
end Go.Proofs.Ytncoakokdajibaa.Q
