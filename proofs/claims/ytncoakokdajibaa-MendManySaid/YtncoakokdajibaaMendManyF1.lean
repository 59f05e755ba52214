import Derived.Test.YtncoakokdajibaaMendManyK0
import Derived.Test.YtncoakokdajibaaMendManyF0
-- Printed by myprint.py (ours) over the kit's printer, out of the translation.
namespace Go.Proofs.Ytncoakokdajibaa.Q
open Go.RowKit Go.Proofs.YtncoakokdajibaaW.PrintWords Go.Proofs.YtncoakokdajibaaW.PrintLast Go.Proofs.YtncoakokdajibaaW.PrintMore
attribute [local go_sem] ArrW.ptrOf_slice unary_neg_float unary_neg_complex run_store_float run_store_complex max2_int min2_int max_two min_two max_three min_three max_four min_four   -- for this text's walks alone
set_option linter.unusedVariables false
set_option linter.unusedSimpArgs false
mutual
def foghornref18_Times.l0 : Nat → Int → Int → Int → Int → Option (Int)
  | 0, _, _, _, _ => none
  | k + 1, x0, x1, x5, x6 => if x6 < 8 then (foghornref18_Times.l1 k x0 x1 x5 x6 0) else (foghornref18_Times.l2 k x5 14)
def foghornref18_Times.l1 : Nat → Int → Int → Int → Int → Int → Option (Int)
  | 0, _, _, _, _, _ => none
  | k + 1, x0, x1, x5, x6, x7 => if x7 < 8 then (if 0 ≤ x6 then (if (Go.bits .and .u8 (shr .u8 x0 x6) 1) = 1 then (if 0 ≤ x7 then (if (Go.bits .and .u8 (shr .u8 x1 x7) 1) = 1 then (if 0 ≤ (wrap64 (x6 + x7)) then (foghornref18_Times.l1 k x0 x1 (Go.bits .xor .i64 x5 (shl .i64 1 (wrap64 (x6 + x7)))) x6 (wrap64 (x7 + 1))) else (none)) else (foghornref18_Times.l1 k x0 x1 x5 x6 (wrap64 (x7 + 1)))) else (none)) else (foghornref18_Times.l1 k x0 x1 x5 x6 (wrap64 (x7 + 1)))) else (none)) else (foghornref18_Times.l0 k x0 x1 x5 (wrap64 (x6 + 1)))
def foghornref18_Times.l2 : Nat → Int → Int → Option (Int)
  | 0, _, _ => none
  | k + 1, x5, x8 => if x8 ≥ 8 then (if 0 ≤ x8 then (if (Go.bits .and .i64 (shr .i64 x5 x8) 1) = 1 then (if 0 ≤ (wrap64 (x8 - 8)) then (foghornref18_Times.l2 k (Go.bits .xor .i64 x5 (shl .i64 285 (wrap64 (x8 - 8)))) (wrap64 (x8 - 1))) else (none)) else (foghornref18_Times.l2 k x5 (wrap64 (x8 - 1)))) else (none)) else (some ((x5) % 256))
end
def foghornref18_Times.f (k : Nat) (a0 : Int) (a1 : Int) : Option (Int) := foghornref18_Times.l0 k a0 a1 0 0
mutual
def foghornref18_Power.j0 : Nat → Int → Int → Option (Int × Int)
  | 0, _, _ => none
  | k + 1, x0, x1 => foghornref18_Power.l0 k x0 x1 1 0
def foghornref18_Power.l0 : Nat → Int → Int → Int → Int → Option (Int × Int)
  | 0, _, _, _, _ => none
  | k + 1, x0, x1, x6, x7 => if x7 < x1 then ((foghornref18_Times.f k x6 x0).bind fun t1014 => (foghornref18_Power.l0 k x0 x1 t1014 (wrap64 (x7 + 1)))) else (some (x6, 0))
end
def foghornref18_Power.f (k : Nat) (a0 : Int) (a1 : Int) : Option (Int × Int) := if a0 = 0 then (if a1 < 0 then (some (0, 6)) else (if a1 = 0 then (some (1, 0)) else (some (0, 0)))) else (if (Int.tmod a1 255) < 0 then (foghornref18_Power.j0 k a0 (wrap64 ((Int.tmod a1 255) + 255))) else (foghornref18_Power.j0 k a0 (Int.tmod a1 255)))
def foghornref18_Exp.f (k : Nat) (a0 : Int) : Option (Int) := (foghornref18_Power.f k 2 a0).bind fun bt1015 => (some bt1015.1)
def foghornref20_x.f (k : Nat) (a0 : Int) (a1 : Int) : Option (Int) := (foghornref18_Exp.f k (wrap64 ((wrap64 (a1 - 1)) - a0))).bind fun t1017 => (some t1017)
mutual
def foghornref20_Locator.j0 : Nat → List Int → Int → Bool → Option (List Int × Int)
  | 0, _, _, _ => none
  | k + 1, x0, x1, x17 => if x17 = true then (some (([] : List Int), 1)) else ((foghornref20_places.f k x0 x1).bind fun bt1018 => (if bt1018.2 = true then (foghornref20_Locator.l0 k x0 x1 (([1] : List Int)) 0) else (some (([] : List Int), 1))))
def foghornref20_Locator.l0 : Nat → List Int → Int → List Int → Int → Option (List Int × Int)
  | 0, _, _, _, _ => none
  | k + 1, x0, x1, x8, x9 => if x9 < (x0.length : Int) then ((some (([] : List Int) : List Int)).bind fun y1025 => (if y1025.length + x8.length < 140737488355328 then ((some (y1025 ++ x8 : List Int)).bind fun y1028 => (if y1028.length < 140737488355328 then (foghornref20_Locator.l1 k x0 x1 x8 x9 (y1028 ++ [0]) 0) else (none))) else (none))) else (some (x8, 0))
def foghornref20_Locator.l1 : Nat → List Int → Int → List Int → Int → List Int → Int → Option (List Int × Int)
  | 0, _, _, _, _, _, _ => none
  | k + 1, x0, x1, x8, x9, x10, x11 => if x11 < (x8.length : Int) then (if 0 ≤ (wrap64 (x11 + 1)) then (if (wrap64 (x11 + 1)) < (x10.length : Int) then (if 0 ≤ x11 then (if 0 ≤ x9 then (if x9 < (x0.length : Int) then ((foghornref20_x.f k (rd x0 x9) x1).bind fun t1037 => ((foghornref18_Times.f k (rd x8 x11) t1037).bind fun t1038 => (foghornref20_Locator.l1 k x0 x1 x8 x9 (x10.set ((wrap64 (x11 + 1)) : Int).toNat (Go.bits .xor .u8 (rd x10 (wrap64 (x11 + 1))) t1038)) (wrap64 (x11 + 1))))) else (none)) else (none)) else (none)) else (none)) else (none)) else (foghornref20_Locator.l0 k x0 x1 x10 (wrap64 (x9 + 1)))
end
def foghornref20_Locator.f (k : Nat) (l0 : List Int) (a1 : Int) : Option (List Int × Int) := if a1 < 1 then (foghornref20_Locator.j0 k l0 a1 true) else (foghornref20_Locator.j0 k l0 a1 (decide (a1 > 255)))
def foghornref20_Locator.T14 : Bool × List (List Nat × List Nat) := (true, [([], []), ([], []), ([1], [1]), ([], []), ([], []), ([4], [4]), ([3, 5], [3, 5]), ([6], [6]), ([], []), ([], []), ([8, 9], [8, 9]), ([10], [10]), ([], []), ([], []), ([12, 13], [12, 13]), ([14], [14]), ([], []), ([15, 16], [15, 16]), ([11, 17, 17], [11, 17]), ([7, 18], [7, 18]), ([0, 2, 0, 1, 2, 3, 4, 5, 6, 7, 8, 9, 10, 11, 12, 13, 14, 15, 16, 17, 18, 19], [0, 2]), ([20, 19, 18, 0, 1, 2, 3, 4, 5, 6, 7, 8, 9, 10, 11, 12, 13, 14, 15, 16, 17, 18, 19], [19, 20])])
def foghornref20_Locator.B14 : List Nat := [0, 0, 2, 0, 0, 16, 56, 120, 0, 0, 768, 1792, 0, 0, 12288, 28672, 0, 126976, 261888, 524280, 1048575, 2097151]
theorem foghornref20_Locator.tab14 : rtab .any (opsOf Try.f59 14) = foghornref20_Locator.T14 := by kernel_rfl
theorem foghornref20_Locator.bits14 : waitsOk foghornref20_Locator.T14.2 foghornref20_Locator.B14 = true := by kernel_rfl
def foghornref18_Over.l0 : Nat → Int → Int → Int → Option (Int × Int)
  | 0, _, _, _ => none
  | k + 1, x0, x1, x6 => if x6 < 256 then ((foghornref18_Times.f k ((x6) % 256) x1).bind fun t1040 => (if t1040 = x0 then (some ((x6) % 256, 0)) else (foghornref18_Over.l0 k x0 x1 (wrap64 (x6 + 1))))) else (some (0, 6))
def foghornref18_Over.f (k : Nat) (a0 : Int) (a1 : Int) : Option (Int × Int) := if a1 = 0 then (some (0, 6)) else (foghornref18_Over.l0 k a0 a1 0)
def foghornref20_inverse.f (k : Nat) (a0 : Int) : Option (Int) := (foghornref18_Over.f k 1 a0).bind fun bt1041 => (some bt1041.1)
def sv_find (n : Nat) (rows : Nat → List Int) (c : Nat) : Nat → Nat → Nat
  | 0, p => p
  | d + 1, p => if rd (rows p) (c : Int) = 0 then sv_find n rows c d (p + 1) else p
def sv_upd {α : Type} (f : Nat → α) (i : Nat) (x : α) : Nat → α := fun a => if a = i then x else f a
def sv_swap {α : Type} (f : Nat → α) (p c : Nat) : Nat → α := fun a => if a = c then f p else if a = p then f c else f a
def sv_scale (k : Nat) (b : Int) : Nat → Nat → List Int → Option (List Int)
  | 0, _, row => some row
  | d + 1, j, row => (foghornref18_Times.f k (rd row (j : Int)) b).bind fun t => sv_scale k b d (j + 1) (row.set j t)
def sv_add (k : Nat) (f : Int) (rc : List Int) : Nat → Nat → List Int → Option (List Int)
  | 0, _, row => some row
  | d + 1, j, row => (foghornref18_Times.f k f (rd rc (j : Int))).bind fun t => sv_add k f rc d (j + 1) (row.set j (Go.bits .xor .u8 (rd row (j : Int)) t))
def sv_elim (k n c : Nat) : Nat → Nat → (Nat → List Int) → List Int → Option ((Nat → List Int) × List Int)
  | 0, _, rows, y => some (rows, y)
  | d + 1, i, rows, y => if i = c ∨ rd (rows i) (c : Int) = 0 then sv_elim k n c d (i + 1) rows y else
      (sv_add k (rd (rows i) (c : Int)) (rows c) n 0 (rows i)).bind fun r => (foghornref18_Times.f k (rd (rows i) (c : Int)) (rd y (c : Int))).bind fun t => sv_elim k n c d (i + 1) (sv_upd rows i r) (y.set i (Go.bits .xor .u8 (rd y (i : Int)) t))
def sv_yswap (y : List Int) (p c : Nat) : List Int := (y.set p (rd y (c : Int))).set c (rd y (p : Int))
def sv_main (k n : Nat) : Nat → Nat → (Nat → List Int) → List Int → Option (Option (List Int))
  | 0, _, _, y => some (some y)
  | d + 1, c, rows, y => if sv_find n rows c (n - c) c = n then some none else
      (foghornref20_inverse.f k (rd (rows (sv_find n rows c (n - c) c)) (c : Int))).bind fun b => (sv_scale k b n 0 (rows (sv_find n rows c (n - c) c))).bind fun rc => (foghornref18_Times.f k (rd y (sv_find n rows c (n - c) c : Int)) b).bind fun t =>
        (sv_elim k n c n 0 (sv_upd (sv_swap rows (sv_find n rows c (n - c) c) c) c rc) ((sv_yswap y (sv_find n rows c (n - c) c) c).set c t)).bind fun q => sv_main k n d (c + 1) q.1 q.2
def foghornref20_solve.f (k : Nat) (l0 : List (List Int)) (l1 : List Int) : Option (List Int × Bool) :=
  if (∀ r ∈ l0, r.length = l0.length) ∧ l1.length = l0.length ∧ l0.length ≤ 1000 then (sv_main k l0.length l0.length 0 (fun i => l0.getD i []) l1).map (fun o => match o with | none => ([], false) | some y => (y, true)) else none
mutual
def foghornref20_errors.l0 : Nat → List Int → Int → Int → Int → List Bool → List (List Int) → List Int → Int → Option (List Int × Bool)
  | 0, _, _, _, _, _, _, _, _ => none
  | k + 1, x0, x1, x2, x3, x4, x12, x13, x14 => if x14 < (wrap64 (x1 + (wrap64 (2 * x2)))) then (foghornref20_errors.l1 k x0 x1 x2 x3 x4 x12 x13 x14 ([] : List Int) 1) else ((foghornref20_solve.f k x12 x13).bind fun bt1054 => (if bt1054.2 = true then (foghornref20_errors.l2 k x2 x3 x4 bt1054.1 ([] : List Int) 0) else (some (([] : List Int), false))))
def foghornref20_errors.l1 : Nat → List Int → Int → Int → Int → List Bool → List (List Int) → List Int → Int → List Int → Int → Option (List Int × Bool)
  | 0, _, _, _, _, _, _, _, _, _, _ => none
  | k + 1, x0, x1, x2, x3, x4, x12, x13, x14, x15, x16 => if x16 ≤ x2 then (if 0 ≤ (wrap64 (x14 - x16)) then (if (wrap64 (x14 - x16)) < (x0.length : Int) then (if x15.length < 140737488355328 then (foghornref20_errors.l1 k x0 x1 x2 x3 x4 x12 x13 x14 (x15 ++ [rd x0 (wrap64 (x14 - x16))]) (wrap64 (x16 + 1))) else (none)) else (none)) else (none)) else (if x12.length < 5864062014805 then (if 0 ≤ x14 then (if x14 < (x0.length : Int) then (if x13.length < 140737488355328 then (foghornref20_errors.l0 k x0 x1 x2 x3 x4 (x12 ++ [x15]) (x13 ++ [rd x0 x14]) (wrap64 (x14 + 1))) else (none)) else (none)) else (none)) else (none))
def foghornref20_errors.l2 : Nat → Int → Int → List Bool → List Int → List Int → Int → Option (List Int × Bool)
  | 0, _, _, _, _, _, _ => none
  | k + 1, x2, x3, x4, x17, x19, x20 => if x20 < x3 then ((foghornref20_x.f k x20 x3).bind fun t1058 => ((foghornref20_inverse.f k t1058).bind fun t1059 => (foghornref20_errors.l3 k x2 x3 x4 x17 x19 x20 t1059 1 t1059 0))) else (some (x19, true))
def foghornref20_errors.l3 : Nat → Int → Int → List Bool → List Int → List Int → Int → Int → Int → Int → Int → Option (List Int × Bool)
  | 0, _, _, _, _, _, _, _, _, _, _ => none
  | k + 1, x2, x3, x4, x17, x19, x20, x21, x22, x23, x24 => if x24 < x2 then (if 0 ≤ x24 then (if x24 < (x17.length : Int) then ((foghornref18_Times.f k (rd x17 x24) x23).bind fun t1061 => ((foghornref18_Times.f k x23 x21).bind fun t1062 => (foghornref20_errors.l3 k x2 x3 x4 x17 x19 x20 x21 (Go.bits .xor .u8 x22 t1061) t1062 (wrap64 (x24 + 1))))) else (none)) else (none)) else (if x22 = 0 then (if 0 ≤ x20 then (if x20 < (x4.length : Int) then (if rdOf false x4 x20 = true then (foghornref20_errors.l2 k x2 x3 x4 x17 x19 (wrap64 (x20 + 1))) else (if x19.length < 17592186044416 then (foghornref20_errors.l2 k x2 x3 x4 x17 (x19 ++ [x20]) (wrap64 (x20 + 1))) else (none))) else (none)) else (none)) else (foghornref20_errors.l2 k x2 x3 x4 x17 x19 (wrap64 (x20 + 1))))
end
def foghornref20_errors.f (k : Nat) (l0 : List Int) (a1 : Int) (a2 : Int) (a3 : Int) (l4 : List Bool) : Option (List Int × Bool) := foghornref20_errors.l0 k l0 a1 a2 a3 l4 ([] : List (List Int)) ([] : List Int) (wrap64 (a1 + a2))
mutual
def foghornref20_filled.l0 : Nat → ByteArray → Int → List Int → List Int → List (List Int) → Int → Option (ByteArray × Bool)
  | 0, _, _, _, _, _, _ => none
  | k + 1, x0, x1, x2, x3, x10, x11 => if x11 < (x2.length : Int) then (foghornref20_filled.l1 k x0 x1 x2 x3 x10 x11 ([] : List Int) 0) else ((some (([] : List Int) : List Int)).bind fun y1077 => (if 0 ≤ (x2.length : Int) then (if (x2.length : Int) ≤ (x3.length : Int) then (if y1077.length + (x3.take ((x2.length : Int) : Int).toNat).length < 140737488355328 then ((foghornref20_solve.f k x10 (y1077 ++ (x3.take ((x2.length : Int) : Int).toNat))).bind fun bt1084 => (if bt1084.2 = true then (if x0.size ≤ 9223372036854775807 then (foghornref20_filled.l2 k x1 x2 bt1084.1 (bytesOf x0) 0) else (none)) else (some ((⟨#[]⟩ : ByteArray), false)))) else (none)) else (none)) else (none)))
def foghornref20_filled.l1 : Nat → ByteArray → Int → List Int → List Int → List (List Int) → Int → List Int → Int → Option (ByteArray × Bool)
  | 0, _, _, _, _, _, _, _, _ => none
  | k + 1, x0, x1, x2, x3, x10, x11, x12, x13 => if x13 < (x2.length : Int) then (if 0 ≤ x13 then ((foghornref20_x.f k (rd x2 x13) (x0.size : Int)).bind fun t1068 => ((foghornref18_Power.f k t1068 x11).bind fun bt1069 => (if x12.length < 140737488355328 then (foghornref20_filled.l1 k x0 x1 x2 x3 x10 x11 (x12 ++ [bt1069.1]) (wrap64 (x13 + 1))) else (none)))) else (none)) else (if x10.length < 5864062014805 then (foghornref20_filled.l0 k x0 x1 x2 x3 (x10 ++ [x12]) (wrap64 (x11 + 1))) else (none))
def foghornref20_filled.l2 : Nat → Int → List Int → List Int → List Int → Int → Option (ByteArray × Bool)
  | 0, _, _, _, _, _ => none
  | k + 1, x1, x2, x16, x18, x19 => if x19 < (x2.length : Int) then (if 0 ≤ x19 then (if 0 ≤ (rd x2 x19) then (if (rd x2 x19) < (x18.length : Int) then (if x19 < (x16.length : Int) then (foghornref20_filled.l2 k x1 x2 x16 (x18.set ((rd x2 x19) : Int).toNat (Go.bits .xor .u8 (rd x18 (rd x2 x19)) (rd x16 x19))) (wrap64 (x19 + 1))) else (none)) else (none)) else (none)) else (none)) else ((foghornref19_Whole.f k (strOfNums x18) x1).bind fun bt1096 => (some (strOfNums x18, bt1096.1)))
end
def foghornref20_filled.f (k : Nat) (a0 : ByteArray) (a1 : Int) (l2 : List Int) (l3 : List Int) : Option (ByteArray × Bool) := if (l2.length : Int) > a1 then (some ((⟨#[]⟩ : ByteArray), false)) else (foghornref20_filled.l0 k a0 a1 l2 l3 ([] : List (List Int)) 0)
def foghornref20_filled.T21 : Bool × List (List Nat × List Nat) := (true, [([], []), ([], []), ([], []), ([1, 2], [1, 2]), ([3], [3]), ([], []), ([], []), ([], []), ([6, 7], [6, 7]), ([8], [8]), ([5, 9], [5, 9]), ([10], [10]), ([], []), ([], []), ([12, 13], [12, 13]), ([14], [14]), ([11, 15], [11, 15]), ([0, 4, 0, 1, 2, 3, 4, 5, 6, 7, 8, 9, 10, 11, 12, 13, 14, 15, 16], [0, 4]), ([17, 16, 0, 1, 2, 3, 4, 5, 6, 7, 8, 9, 10, 11, 12, 13, 14, 15, 16], [16, 17])])
def foghornref20_filled.B21 : List Nat := [0, 0, 0, 6, 14, 0, 0, 0, 192, 448, 992, 2016, 0, 0, 12288, 28672, 65504, 131071, 262143]
theorem foghornref20_filled.tab21 : rtab .any (opsOf Try.f94 21) = foghornref20_filled.T21 := by kernel_rfl
theorem foghornref20_filled.bits21 : waitsOk foghornref20_filled.T21.2 foghornref20_filled.B21 = true := by kernel_rfl
mutual
def foghornref20_Mend.l0 : Nat → ByteArray → Int → List Int → List Bool → Int → List Int → List Int → List Int → Int → Option (ByteArray × List Int × List Int × Int)
  | 0, _, _, _, _, _, _, _, _, _ => none
  | k + 1, x0, x1, x2, x8, x10, x11, x13, x15, x16 => if x16 < x1 then (foghornref20_Mend.l1 k x0 x1 x2 x8 x10 x11 x13 x15 x16 0) else (foghornref20_Mend.l2 k x0 x1 x2 x8 x10 x11 x15 (wrap64 (Int.tdiv (wrap64 (x1 - x10)) 2)))
def foghornref20_Mend.l1 : Nat → ByteArray → Int → List Int → List Bool → Int → List Int → List Int → List Int → Int → Int → Option (ByteArray × List Int × List Int × Int)
  | 0, _, _, _, _, _, _, _, _, _, _ => none
  | k + 1, x0, x1, x2, x8, x10, x11, x13, x15, x16, x17 => if x17 < (x13.length : Int) then (if x17 ≤ x16 then (if 0 ≤ x16 then (if x16 < (x15.length : Int) then (if 0 ≤ x17 then (if 0 ≤ (wrap64 (x16 - x17)) then (if (wrap64 (x16 - x17)) < (x11.length : Int) then ((foghornref18_Times.f k (rd x13 x17) (rd x11 (wrap64 (x16 - x17)))).bind fun t1117 => (foghornref20_Mend.l1 k x0 x1 x2 x8 x10 x11 x13 (x15.set (x16 : Int).toNat (Go.bits .xor .u8 (rd x15 x16) t1117)) x16 (wrap64 (x17 + 1)))) else (none)) else (none)) else (none)) else (none)) else (none)) else (foghornref20_Mend.l0 k x0 x1 x2 x8 x10 x11 x13 x15 (wrap64 (x16 + 1)))) else (foghornref20_Mend.l0 k x0 x1 x2 x8 x10 x11 x13 x15 (wrap64 (x16 + 1)))
def foghornref20_Mend.l2 : Nat → ByteArray → Int → List Int → List Bool → Int → List Int → List Int → Int → Option (ByteArray × List Int × List Int × Int)
  | 0, _, _, _, _, _, _, _, _ => none
  | k + 1, x0, x1, x2, x8, x10, x11, x15, x18 => if x18 ≥ 0 then ((foghornref20_errors.f k x15 x10 x18 (x0.size : Int) x8).bind fun bt1119 => (if bt1119.2 = true then ((foghornref20_rising.f k x8).bind fun t1123 => (if t1123.length + bt1119.1.length < 17592186044416 then ((foghornref20_filled.f k x0 x1 (t1123 ++ bt1119.1) x11).bind fun bt1129 => (if bt1129.2 = true then ((foghornref20_Within.f k x0 bt1129.1 x1 x2).bind fun bt1131 => (if bt1131.1 = true then ((foghornref20_unlike.f k x0 bt1129.1 x8).bind fun t1133 => ((foghornref20_rising.f k x8).bind fun t1136 => (some (bt1129.1, t1133, t1136, 0)))) else (some ((⟨#[]⟩ : ByteArray), ([] : List Int), ([] : List Int), 9)))) else (some ((⟨#[]⟩ : ByteArray), ([] : List Int), ([] : List Int), 9)))) else (none))) else (foghornref20_Mend.l2 k x0 x1 x2 x8 x10 x11 x15 (wrap64 (x18 - 1))))) else (some ((⟨#[]⟩ : ByteArray), ([] : List Int), ([] : List Int), 9))
end
def foghornref20_Mend.f (k : Nat) (a0 : ByteArray) (a1 : Int) (l2 : List Int) : Option (ByteArray × List Int × List Int × Int) := (foghornref20_Wrong.f k a0 a1 l2).bind fun bt1099 => (if bt1099.2 = 0 then (if (l2.length : Int) > a1 then (some ((⟨#[]⟩ : ByteArray), ([] : List Int), ([] : List Int), 9)) else ((foghornref19_Syndromes.f k a0 a1).bind fun bt1103 => ((foghornref20_Locator.f k l2 (a0.size : Int)).bind fun bt1107 => (if 0 ≤ a1 then (if (a1 : Int).toNat ≤ 281474976710656 then (foghornref20_Mend.l0 k a0 a1 l2 bt1099.1 (l2.length : Int) bt1103.1 bt1107.1 (List.replicate (a1 : Int).toNat 0) 0) else (none)) else (none))))) else (some ((⟨#[]⟩ : ByteArray), ([] : List Int), ([] : List Int), bt1099.2)))
def foghornref20_Mend.T16 : Bool × List (List Nat × List Nat) := (true, [([], []), ([], []), ([], []), ([], []), ([2, 3], [2, 3]), ([4], [4]), ([], []), ([], []), ([6, 7], [6, 7]), ([8], [8]), ([], []), ([], []), ([], []), ([11, 12], [11, 12]), ([10, 13], [10, 13]), ([14], [14]), ([9, 15], [9, 15]), ([5, 16], [5, 16]), ([0, 1, 0, 1, 2, 3, 4, 5, 6, 7, 8, 9, 10, 11, 12, 13, 14, 15, 16, 17], [0, 1]), ([18, 17, 16, 0, 1, 2, 3, 4, 5, 6, 7, 8, 9, 10, 11, 12, 13, 14, 15, 16, 17], [17, 18])])
def foghornref20_Mend.B16 : List Nat := [0, 0, 0, 0, 12, 28, 0, 0, 192, 448, 0, 0, 0, 6144, 15360, 31744, 65472, 131068, 262143, 524287]
theorem foghornref20_Mend.tab16 : rtab .any (opsOf Try.f55 16) = foghornref20_Mend.T16 := by kernel_rfl
theorem foghornref20_Mend.bits16 : waitsOk foghornref20_Mend.T16.2 foghornref20_Mend.B16 = true := by kernel_rfl
def foghornlaw20_alike.f (k : Nat) (a0_0 : ByteArray) (l0_1 : List Int) (l0_2 : List Int) (a1_0 : ByteArray) (l1_1 : List Int) (l1_2 : List Int) : Option (Bool) := if a0_0.toList = a1_0.toList then ((foghornref20_Numbers.f k l0_1 l1_1).bind fun t1141 => (if t1141 = true then ((foghornref20_Numbers.f k l0_2 l1_2).bind fun t1142 => (some t1142)) else (some false))) else (some false)
mutual
def foghornlaw20_spoil.l0 : Nat → Int → ByteArray → List Int → List Int → Option (Unit)
  | 0, _, _, _, _ => none
  | k + 1, x2, x1144000, x1144001, x1144002 => if x2 < (x1144001.length : Int) then (if 0 ≤ x2 then (foghornlaw20_spoil.l0 k (wrap64 (x2 + 1)) x1144000 (x1144001.set (x2 : Int).toNat (-1)) x1144002) else (none)) else (foghornlaw20_spoil.l1 k 0 x1144000 x1144001 x1144002)
def foghornlaw20_spoil.l1 : Nat → Int → ByteArray → List Int → List Int → Option (Unit)
  | 0, _, _, _, _ => none
  | k + 1, x3, x1144000, x1144001, x1144002 => if x3 < (x1144002.length : Int) then (if 0 ≤ x3 then (foghornlaw20_spoil.l1 k (wrap64 (x3 + 1)) x1144000 x1144001 (x1144002.set (x3 : Int).toNat (-2))) else (none)) else (foghornlaw20_spoil.l2 k 0 x1144000 x1144001 x1144002)
def foghornlaw20_spoil.l2 : Nat → Int → ByteArray → List Int → List Int → Option (Unit)
  | 0, _, _, _, _ => none
  | k + 1, x4, x1144000, x1144001, x1144002 => if x4 < 20 then (if x1144001.length < 17592186044416 then (if x1144002.length < 17592186044416 then (foghornlaw20_spoil.l2 k (wrap64 (x4 + 1)) x1144000 (x1144001 ++ [(-3)]) (x1144002 ++ [(-4)])) else (none)) else (none)) else (some ())
end
def foghornlaw20_spoil.f (k : Nat) (a0_0 : ByteArray) (l0_1 : List Int) (l0_2 : List Int) : Option (Unit) := foghornlaw20_spoil.l0 k 0 a0_0 l0_1 l0_2
mutual
def foghornref20_All.j0 : Nat → List ByteArray → Int → List (List Int) → Bool → Option ((List (S76)) × List Int × Int)
  | 0, _, _, _, _ => none
  | k + 1, x0, x1, x2, x36 => if x36 = true then (some (([] : List (S76)), ([] : List Int), 1)) else (foghornref20_All.l0 k x0 x1 x2 ([] : List (S76)) ([] : List Int) 0)
def foghornref20_All.l0 : Nat → List ByteArray → Int → List (List Int) → List (S76) → List Int → Int → Option ((List (S76)) × List Int × Int)
  | 0, _, _, _, _, _, _ => none
  | k + 1, x0, x1, x2, x9, x10, x11 => if x11 < (x0.length : Int) then (if 0 ≤ x11 then (if x11 < (x2.length : Int) then ((foghornref20_Mend.f k (rdOf ByteArray.empty x0 x11) x1 (rd_L9 x2 x11)).bind fun bt1230 => (if bt1230.2.2.2 = 1 then (some (([] : List (S76)), ([] : List Int), 1)) else (if bt1230.2.2.2 = 0 then (if x9.length < 2199023255552 then (foghornref20_All.l0 k x0 x1 x2 (x9 ++ [(⟨bt1230.1, bt1230.2.1, bt1230.2.2.1⟩ : S76)]) x10 (wrap64 (x11 + 1))) else (none)) else (if x10.length < 17592186044416 then (if x9.length < 2199023255552 then (foghornref20_All.l0 k x0 x1 x2 (x9 ++ [(⟨bt1230.1, bt1230.2.1, bt1230.2.2.1⟩ : S76)]) (x10 ++ [x11]) (wrap64 (x11 + 1))) else (none)) else (none))))) else (none)) else (none)) else (some (x9, x10, 0))
end
def foghornref20_All.f (k : Nat) (l0 : List ByteArray) (a1 : Int) (l2 : List (List Int)) : Option ((List (S76)) × List Int × Int) := if a1 < 2 then (foghornref20_All.j0 k l0 a1 l2 true) else (if a1 > 64 then (foghornref20_All.j0 k l0 a1 l2 true) else (if (Int.tmod a1 2) = 0 then (if (l0.length : Int) = (l2.length : Int) then (foghornref20_All.j0 k l0 a1 l2 (decide ((l0.length : Int) > 32768))) else (foghornref20_All.j0 k l0 a1 l2 true)) else (foghornref20_All.j0 k l0 a1 l2 true)))
def foghornref20_All.T8 : Bool × List (List Nat × List Nat) := (true, [([], []), ([], []), ([0, 1], [0, 1]), ([2], [2]), ([], []), ([], []), ([], []), ([5, 6], [5, 6]), ([7], [7]), ([3, 4, 8], [3, 4, 8]), ([9], [9]), ([10], [10]), ([10], [10]), ([], []), ([13, 11, 9, 0, 1, 2, 3, 4, 5, 6, 7, 8, 9, 10, 11, 13], [11, 13]), ([12, 14, 0, 1, 2, 3, 4, 5, 6, 7, 8, 9, 10, 11, 12, 13, 14], [12])])
def foghornref20_All.B8 : List Nat := [0, 0, 3, 7, 0, 0, 0, 96, 224, 511, 1023, 2047, 2047, 0, 12287, 32767]
theorem foghornref20_All.tab8 : rtab .any (opsOf Try.f61 8) = foghornref20_All.T8 := by kernel_rfl
theorem foghornref20_All.bits8 : waitsOk foghornref20_All.T8.2 foghornref20_All.B8 = true := by kernel_rfl
mutual
def foghornref20_Message.l0 : Nat → List ByteArray → Int → List (S76) → List Int → Int → Int → Option (ByteArray × Int)
  | 0, _, _, _, _, _, _ => none
  | k + 1, x0, x1, x8, x9, x11, x12 => if x12 < (x0.length : Int) then (if 0 ≤ x12 then (foghornref20_Message.l0 k x0 x1 x8 x9 (wrap64 ((wrap64 (x11 + ((rdOf ByteArray.empty x0 x12).size : Int))) - x1)) (wrap64 (x12 + 1))) else (none)) else (if x11 > 32768 then (some ((⟨#[]⟩ : ByteArray), 1)) else (if (x9.length : Int) > 0 then (some ((⟨#[]⟩ : ByteArray), 9)) else (foghornref20_Message.l1 k x1 x8 (⟨#[]⟩ : ByteArray) 0)))
def foghornref20_Message.l1 : Nat → Int → List (S76) → ByteArray → Int → Option (ByteArray × Int)
  | 0, _, _, _, _ => none
  | k + 1, x1, x8, x13, x14 => if x14 < (x8.length : Int) then (if 0 ≤ x14 then (if 0 ≤ (wrap64 ((((rd_T76 x8 x14).f0).size : Int) - x1)) then (if (wrap64 ((((rd_T76 x8 x14).f0).size : Int) - x1)) ≤ (((rd_T76 x8 x14).f0).size : Int) then (if x13.size + (((rd_T76 x8 x14).f0).extract 0 ((wrap64 ((((rd_T76 x8 x14).f0).size : Int) - x1)) : Int).toNat).size ≤ 9223372036854775807 then (foghornref20_Message.l1 k x1 x8 (x13 ++ (((rd_T76 x8 x14).f0).extract 0 ((wrap64 ((((rd_T76 x8 x14).f0).size : Int) - x1)) : Int).toNat)) (wrap64 (x14 + 1))) else (none)) else (none)) else (none)) else (none)) else (some (x13, 0))
end
def foghornref20_Message.f (k : Nat) (l0 : List ByteArray) (a1 : Int) (l2 : List (List Int)) : Option (ByteArray × Int) := (foghornref20_All.f k l0 a1 l2).bind fun bt1248 => (if bt1248.2.2 = 0 then (foghornref20_Message.l0 k l0 a1 bt1248.1 bt1248.2.1 0 0) else (some ((⟨#[]⟩ : ByteArray), bt1248.2.2)))
def mm_size (r : Int) : List ByteArray → Int → Int
  | [], z => z
  | s :: ss, z => mm_size r ss (wrap64 (z + wrap64 ((s.size : Int) - r)))
def mm_text (r : Int) : List S64 → List UInt8 → Option (List UInt8)
  | [], bs => some bs
  | m :: ms, bs => if 0 ≤ wrap64 ((m.f0.size : Int) - r) ∧ wrap64 ((m.f0.size : Int) - r) ≤ (m.f0.size : Int) ∧ bs.length + (m.f0.extract 0 (wrap64 ((m.f0.size : Int) - r)).toNat).size ≤ 140737488355328 then mm_text r ms (bs ++ (m.f0.extract 0 (wrap64 ((m.f0.size : Int) - r)).toNat).data.toList) else none
def mm_end (r : Int) (l0 : List ByteArray) (q : List S64 × List Int × Int) : Option (ByteArray × Int) := if q.2.2 = 0 then (if mm_size r l0 0 > 32768 then some ((⟨#[]⟩ : ByteArray), 1) else if 0 < q.2.1.length then some ((⟨#[]⟩ : ByteArray), 9) else if q.1.length ≤ 1000000 then (mm_text r q.1 []).map (fun bs => ((⟨bs.toArray⟩ : ByteArray), (0 : Int))) else none) else some ((⟨#[]⟩ : ByteArray), q.2.2)
def mend_Message.f (k : Nat) (l0 : List ByteArray) (a1 : Int) (l2 : List (List Int)) : Option (ByteArray × Int) := if l0.length ≤ 140737488355328 then (mend_All.f k l0 a1 l2).bind (mm_end a1 l0) else none
def many_ok (W : List S76 × List Int × Int) (A : List S64 × List Int × Int) : Prop := W.1.map (fun x => (x.f0, x.f1, x.f2)) = A.1.map (fun x => (x.f0, x.f1, x.f2)) ∧ W.2 = A.2 ∧ (∀ x ∈ A.1, x.f1.length ≤ 1000 ∧ x.f2.length ≤ 1000) ∧ A.1.length ≤ 100000 ∧ A.2.1.length ≤ 100000
open Classical in
noncomputable def foghornlaw20_MendMany.f (k : Nat) (l0 : List ByteArray) (a1 : Int) (l2 : List (List Int)) : Option Bool :=
  if l0.length < 8796093022207 ∧ l2.length < 5864062014805 ∧ ∀ x ∈ l2, x.length < 17592186044415 then
    (foghornref20_All.f k l0 a1 l2).bind fun W => (mend_All.f k l0 a1 l2).bind fun A => if many_ok W A then
      (foghornref20_Message.f k l0 a1 l2).bind fun m => (mend_Message.f k l0 a1 l2).bind fun n => if m = n then some true else none
    else none
  else none
open Classical in
def foghornlaw20_MendMany.Pure : Prop := ∀ (l0 : List ByteArray) (a1 : Int) (l2 : List (List Int)), (l0.length * 16 ≤ 140737488351232 ∧ ∀ x ∈ l0, (fun y_ : ByteArray => y_.size ≤ 140737488351232) x) → ((Lit.int .i64 a1).wf = true) → (l2.length * 24 ≤ 140737488351232 ∧ ∀ x ∈ l2, (fun y_ : List Int => y_.length * 8 ≤ 140737488351232 ∧ ∀ x ∈ y_, (fun y_ : Int => (Lit.int .i64 y_).wf = true) x) x) → ∃ k, foghornlaw20_MendMany.f k l0 a1 l2 = some true
end Go.Proofs.Ytncoakokdajibaa.Q
