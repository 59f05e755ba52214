-- Printed by myprint.py (ours) over the kit's printer, out of the translation.
import Derived.Test.YthfcafllcgjepaaMeterNoneK0
import Derived.Test.YthfcafllcgjepaaMeterNoneF0
import Derived.Test.YthfcafllcgjepaaMeterNoneQ0
import Derived.Test.YthfcafllcgjepaaMeterNoneQ1
import Derived.Test.YthfcafllcgjepaaMeterNoneQ2
import Derived.Test.YthfcafllcgjepaaMeterNoneQ3
import Derived.Test.YthfcafllcgjepaaMeterNoneQ4
import Derived.Test.YthfcafllcgjepaaMeterNoneQ5
namespace Go.Proofs.Ythfcafllcgjepaa.Q
open Go.RowKit Go.Proofs.YthfcafllcgjepaaW.PrintWords Go.Proofs.YthfcafllcgjepaaW.PrintLast Go.Proofs.YthfcafllcgjepaaW.PrintMore
attribute [local go_sem] ArrW.ptrOf_slice unary_neg_float unary_neg_complex run_store_float run_store_complex max2_int min2_int max_two min_two max_three min_three max_four min_four   -- for this text's walks alone
set_option linter.unusedVariables false
set_option linter.unusedSimpArgs false

/-! ### foghornlaw30_MeterNone: function 16 -/
--WALK
theorem mn_Count_nil (w : World) : Calls Try.prog 41 #[.pointer none, .slice none 0 0, .slice none 0 0] w fun e w' => e = .returned (.int .i64 2) ∧ Below w.heap.size w w' := by
 go_enter Try.func41, Try.ntmps41
 go_wp2
 go_ret
 exact ⟨rfl, Below.refl _ _⟩
theorem mn_Within_nil (x : Int) (w : World) : Calls Try.prog 43 #[.pointer none, .int .i64 x] w fun e w' => e = .returned (.tuple #[.bool false, .int .i64 2]) ∧ Below w.heap.size w w' := by
 go_enter Try.func43, Try.ntmps43
 go_wp2
 go_ret2
 exact ⟨rfl, Below.refl _ _⟩
set_option maxHeartbeats 4000000 in
theorem mn_Told_nil (w : World) : Calls Try.prog 42 #[.pointer none] w fun e w' => e = .returned (.tuple #[.agg #[.int .i64 0, .int .i64 0, .int .i64 0, .int .i64 0], .int .i64 2]) ∧ Below w.heap.size w w' := by
 have hu63 := Try.underlying63
 go_enter Try.func42, Try.ntmps42
 go_wp2_with (first
  | ((with_reducible refine gate_dst (N := 2) rfl ?_); refine box_event ?hg (N := 2) ?hd (cs := #[.int .i64 0, .int .i64 0, .int .i64 0, .int .i64 0]) (t := 63) ?hr ?_; (case hd => rfl); (case hg => rfl); (case hr => first | (go_simp; done) | (go_simp; rfl)); intro g2 hg2 w1 hbox hb; have BX := Aside0.mk hbox; have G2 := Aside0.mk hg2; have HB := Aside0.mk hb; clear hbox hg2 hb; have hcz0 : w1.cell? ⟨g2, 0, none⟩ = some (.int .i64 0) := (blk_cell BX.out 0).trans rfl; have hcz1 : w1.cell? ⟨g2, 1, none⟩ = some (.int .i64 0) := (blk_cell BX.out 1).trans rfl; have hcz2 : w1.cell? ⟨g2, 2, none⟩ = some (.int .i64 0) := (blk_cell BX.out 2).trans rfl; have hcz3 : w1.cell? ⟨g2, 3, none⟩ = some (.int .i64 0) := (blk_cell BX.out 3).trans rfl; have hfz0 := blk_frozen BX.out 0; have hfz1 := blk_frozen BX.out 1; have hfz2 := blk_frozen BX.out 2; have hfz3 := blk_frozen BX.out 3))
 have hle : w.heap.size ≤ g2 := Nat.le_of_eq G2.out.symm
 have BK := blk_put (cs := #[.int .i64 0, .int .i64 0, .int .i64 0, .int .i64 0]) (cs' := #[.int .i64 0, .int .i64 0, .int .i64 0, .int .i64 0]) (blk_put (cs := #[.int .i64 0, .int .i64 0, .int .i64 0, .int .i64 0]) (blk_put (cs := #[.int .i64 0, .int .i64 0, .int .i64 0, .int .i64 0]) (blk_put BX.out 0 (.int .i64 0) rfl) 1 (.int .i64 0) rfl) 2 (.int .i64 0) rfl) 3 (.int .i64 0) rfl
 refine bodyPost_ret (results_ct rfl _ _ g2 63 #[.int .i64 0, .int .i64 0, .int .i64 0, .int .i64 0] (0, 0) _ rfl BK Try.underlying63 rfl (by kernel_rfl)) rfl ?_
 exact ⟨(by first | rfl | (simp [go_sem]; done)), below_set (below_set (below_set (below_set HB.out hle) hle) hle) hle⟩
theorem mn_Off_no (A : Option Addr) (n c : Nat) (A' : Option Addr) (n' c' : Nat) (h : 64 < n ∨ n' ≠ n) (w : World) : Calls Try.prog 60 #[.slice A n c, .slice A' n' c'] w fun e w' => e = .returned (.tuple #[.float .f64 0, .float .f64 0, .int .i64 0, .int .i64 1]) ∧ Below w.heap.size w w' := by
 by_cases h0 : 64 < n
 ·have h1 : decide ((n : Int) > 64) = true := decide_eq_true (by omega)
  have h2 : decide (64 < (n : Int)) = true := decide_eq_true (by omega)
  have h3 : decide (64 < n) = true := decide_eq_true h0
  clear h h0
  go_enter Try.func60, Try.ntmps60
  go_wp2
  refine bodyPost_ret (results_list (rs := [.tmp 4, .tmp 5, .tmp 6, .tmp 7]) rfl (by simp) (.tmp (.tmp (.tmp (.tmp .nil))))) rfl ?_
  exact ⟨rfl, Below.refl _ _⟩
 ·have h1 : decide ((n : Int) > 64) = false := decide_eq_false (by omega)
  have h2 : decide (64 < (n : Int)) = false := decide_eq_false (by omega)
  have h3 : decide (64 < n) = false := decide_eq_false h0
  have h4 : ((n' : Int) != (n : Int)) = true := bne_iff_ne.2 (by omega)
  clear h h0
  go_enter Try.func60, Try.ntmps60
  go_wp2
  refine bodyPost_ret (results_list (rs := [.tmp 4, .tmp 5, .tmp 6, .tmp 7]) rfl (by simp) (.tmp (.tmp (.tmp (.tmp .nil))))) rfl ?_
  exact ⟨rfl, Below.refl _ _⟩
/-- The meter's block and what it told at first. -/
structure mn_Z (w W : World) (g7 g8 : Nat) (m1 m2 m3 m4 : Int) : Prop where
 hB : Below w.heap.size w W
 b7 : W.heap[g7]? = some (.cells #[.int .i64 m1, .int .i64 m2, .int .i64 m3, .int .i64 m4] 185 (0, 0))
 b8 : W.heap[g8]? = some (.cells #[.int .i64 0, .int .i64 0, .int .i64 0, .int .i64 0] 63 (0, 0))
 n7 : w.heap.size ≤ g7
 ne : g8 ≠ g7
section
variable {w W W' : World} {g7 g8 : Nat} {m1 m2 m3 m4 : Int}
theorem mn_Z.below (h : mn_Z w W g7 g8 m1 m2 m3 m4) (hb : Below W.heap.size W W') : mn_Z w W' g7 g8 m1 m2 m3 m4 := ⟨below_step h.hB hb, blk_below h.b7 hb, blk_below h.b8 hb, h.n7, h.ne⟩
theorem mn_Z.drew (h : mn_Z w W g7 g8 m1 m2 m3 m4) : mn_Z w W.drew g7 g8 m1 m2 m3 m4 := h.below (below_drew (Below.refl _ _))
theorem mn_Z.grown (h : mn_Z w W g7 g8 m1 m2 m3 m4) (hg : W.grownBy W' none) (hb : Below w.heap.size w W') : mn_Z w W' g7 g8 m1 m2 m3 m4 := ⟨hb, blk_grown h.b7 hg (by simp), blk_grown h.b8 hg (by simp), h.n7, h.ne⟩
theorem mn_Z.i7 (h : mn_Z w W g7 g8 m1 m2 m3 m4) : IsS185 w W g7 m1 m2 m3 m4 := ⟨h.b7, h.n7⟩
theorem mn_Z.keep (h : mn_Z w W g7 g8 m1 m2 m3 m4) {q1 q2 q3 q4 : Int} (hI : IsS185 w W' g7 q1 q2 q3 q4) (hB : Below w.heap.size w W') (hk : KeepBut W W' g7 none) : mn_Z w W' g7 g8 q1 q2 q3 q4 := ⟨hB, hI.1, hk.blk h.b8 h.ne (by simp), h.n7, h.ne⟩
end
theorem mn_Errors_nil (k : Nat) (d1 d2 d3 : Int) (h : meter_Errors.f k [] [] = some (d1, d2, d3)) (w : World) : Calls Try.prog 32 #[.slice none 0 0, .slice none 0 0] w fun e w' => e = .returned (.tuple #[.int .i64 d1, .int .i64 d2, .int .i64 d3]) ∧ Below w.heap.size w w' :=
 (meter_Errors.calls k none 0 [] none 0 [] d1 d2 d3 w (Kd.C_nil _ _) (Nat.le_refl _) (Kd.C_nil _ _) (Nat.le_refl _) h).mono fun _ _ ⟨h1, h2⟩ => ⟨h1, h2.below⟩
theorem mn_Runs_nil (k : Nat) (x : Int) (r : List S49) (e2 : Int) (h : meter_Runs.f k [] [] x = some (r, e2)) (w : World) : Calls Try.prog 34 #[.slice none 0 0, .slice none 0 0, .int .i64 x] w fun e w' => ∃ A c, e = .returned (.tuple #[.slice A r.length c, .int .i64 e2]) ∧ Below w.heap.size w w' :=
 (meter_Runs.calls k none 0 [] none 0 [] x r e2 w (Kd.C_nil _ _) (Nat.le_refl _) (Kd.C_nil _ _) (Nat.le_refl _) h).mono fun _ _ ⟨v, h1, h2, h3⟩ => by
  obtain ⟨A, c, rfl⟩ := Kd.R_slice h2
  exact ⟨A, c, h1, h3⟩
theorem mn_Power_nil (k : Nat) (r1 : Nat) (r2 r3 : Int) (h : meter_Power.f k [] = some (r1, r2, r3)) (w : World) : Calls Try.prog 61 #[.slice none 0 0] w fun e w' => e = .returned (.tuple #[.float .f64 r1, .int .i64 r2, .int .i64 r3]) ∧ Below w.heap.size w w' :=
 meter_Power.calls k none 0 [] r1 r2 r3 w (Kd.C_nil _ _) (Nat.le_refl _) h
theorem mn_Open_lit (k a b : Nat) (c : Bool) (r1 : Nat) (r2 r3 : Int) (h : meter_Open.f k 4 [⟨(a, b), c⟩] = some (r1, r2, r3)) (w : World) : Calls Try.prog 59 #[.int .i64 4, .slice (some ⟨w.heap.size, 0, none⟩) 1 1] (w.alloc (.cells #[.complex .f64 a b, .bool c] 101)) fun e w' => e = .returned (.tuple #[.float .f64 r1, .int .i64 r2, .int .i64 r3]) ∧ Below w.heap.size w w' := by
 have hR : Kd.R k101 101 (w.alloc (.cells #[.complex .f64 a b, .bool c] 101)) w.heap.size (fun _ => True) (.slice (some ⟨w.heap.size, 0, none⟩) 1 1) [⟨(a, b), c⟩] := by
  refine ⟨fun _ _ => trivial, [.complex .f64 a b, .bool c], ?_, rfl, fun j p hj => by
   cases j with
   | zero =>
    obtain rfl := Option.some.inj hj
    exact k101_mkM _ _ _ (⟨(a, b), c⟩ : S101)
   | succ j => simp at hj⟩
  exact World.ownsRow_lit (base := w.heap.size) (e := 101) (size := 2) w #[.complex .f64 a b, .bool c] 1 (Nat.le_refl _) (by simp [maxLen]) (by simp)
 obtain ⟨_, h1, h3⟩ := Kd.R_reads' hR
 exact (meter_Open.calls k 4 (some ⟨w.heap.size, 0, none⟩) 1 [⟨(a, b), c⟩] r1 r2 r3 _ h3 h1 h).mono fun e w' ⟨q1, q2⟩ => ⟨q1, below_step (below_alloc (Below.refl _ _) _) q2⟩
set_option maxHeartbeats 16000000 in
set_option maxRecDepth 100000 in
theorem mn_go (k : Nat) (L1 L2 L3 : List Bool) (L5 L6 : List S101) (M5 M6 : List (Nat × Nat)) (hL1 : List.replicate (32768 : Int).toNat false = L1) (hL2 : List.replicate (32769 : Int).toNat false = L2) (hL3 : List.replicate (1 : Int).toNat false = L3) (hL5 : List.replicate (65 : Int).toNat z101 = L5) (hL6 : List.replicate (2 : Int).toNat z101 = L6) (hM5 : List.replicate (65 : Int).toNat ((0, 0) : Nat × Nat) = M5) (hM6 : List.replicate (1 : Int).toNat ((0, 0) : Nat × Nat) = M6)
  (hl5 : 64 < L5.length) (hl6 : M6.length ≠ L6.length)
  (a1 a2 b1 b2 c1 c2 d1 d2 : Int) (r1 : List S49) (p1 : Int) (p2 p3 : Nat) (q1 : Int) (q2 q3 : Nat) (i1 : Nat) (i2 : Int) (l1 : Nat) (l2 : Int) (m1 : Nat) (m2 : Int)
  (ha : meter_Errors.f k L1 L1 = some (a1, a2, 0)) (hb : meter_Errors.f k L2 L2 = some (b1, b2, 1)) (hc : meter_Errors.f k [] L3 = some (c1, c2, 1)) (hd : meter_Errors.f k [] [] = some (d1, d2, 0)) (he : meter_Runs.f k [] [] (-1) = some (r1, 1)) (hf : meter_Runs.f k [] [] 4611686018427387904 = some ([], 0))
  (hg : meter_Nearest.f k 8 (0, 0) = some (p1, p2, p3, 1)) (hh : meter_Nearest.f k 4 (4547007122018943789, 0) = some (q1, q2, q3, 7)) (hi : meter_Power.f k L5 = some (i1, i2, 1)) (hj : meter_Power.f k [] = some (0, 0, 0)) (hl : meter_Open.f k 4 [⟨(0, 0), true⟩] = some (l1, l2, 6)) (hm : meter_Open.f k 4 [⟨(4656510908468559872, 0), false⟩] = some (m1, m2, 7)) (hn : foghornlaw30_awake.f k = some true) (w : World) :
  Calls Try.prog 16 #[] w fun e w' => e = .returned (.bool true) ∧ Below w.heap.size w w' := by
 have HA := Aside0.mk ha
 have HBb := Aside0.mk hb
 have HC := Aside0.mk hc
 have HD := Aside0.mk hd
 have HE := Aside0.mk he
 have HF := Aside0.mk hf
 have HG := Aside0.mk hg
 have HH := Aside0.mk hh
 have HI := Aside0.mk hi
 have HJ := Aside0.mk hj
 have HL := Aside0.mk hl
 have HM := Aside0.mk hm
 have HN := Aside0.mk hn
 have HL1 := Aside0.mk hL1
 have HL2 := Aside0.mk hL2
 have HL3 := Aside0.mk hL3
 have HL5 := Aside0.mk hL5
 have HL6 := Aside0.mk hL6
 have HM5 := Aside0.mk hM5
 have HM6 := Aside0.mk hM6
 have HX5 := Aside0.mk (show 64 < L5.length ∨ M5.length ≠ L5.length from .inl hl5)
 have HX6 := Aside0.mk (show 64 < L6.length ∨ M6.length ≠ L6.length from .inr hl6)
 have HNEW := Aside0.mk (show meter_New.f = some (0, 0, 0, 0) from rfl)
 have HTOLD := Aside0.mk (show meter_Meter_Told.f 0 0 0 0 = some (0, 0, 0, 0, 0, 0, 0, 0, 0) from rfl)
 have HW1 := Aside0.mk (show meter_Meter_Within.f 0 0 0 0 4611686018427387904 = some (true, 0, 0, 0, 0, 0) from by decide +kernel)
 have HW2 := Aside0.mk (show meter_Meter_Within.f 0 0 0 0 0 = some (false, 1, 0, 0, 0, 0) from by decide +kernel)
 have HB := Aside0.mk (Below.refl w.heap.size w)
 clear ha hb hc hd he hf hg hh hi hj hl hm hn hL1 hL2 hL3 hL5 hL6 hM5 hM6 hl5 hl6
 have hu63 := Try.underlying63
 have hu101 := Try.underlying101
 go_enter Try.func16, Try.ntmps16
 go_upto_region 4 with (first
  | (go_at_call 41; (with_reducible refine (mn_Count_nil _).mono ?_); rintro e w1 ⟨rfl, hb⟩; have HB1 := Aside0.mk (below_step HB.out hb); clear hb)
  | (go_at_call 42; (with_reducible refine (mn_Told_nil _).mono ?_); rintro e w2 ⟨rfl, hb⟩; have HB2 := Aside0.mk (below_step HB1.out hb); clear hb)
  | ((with_reducible refine gate_dst (N := 3) rfl ?_); refine box_event ?hg (N := 3) ?hd (cs := #[.int .i64 0, .int .i64 0, .int .i64 0, .int .i64 0]) (t := 63) ?hr ?_; (case hd => rfl); (case hg => rfl); (case hr => first | (go_simp; done) | (go_simp; rfl)); intro g3 hg3 w3 hbox hb; have BX := Aside0.mk hbox; have G3 := Aside0.mk hg3; have HB3 := Aside0.mk hb; clear hbox hg3 hb; have hcz0 : w3.cell? ⟨g3, 0, none⟩ = some (.int .i64 0) := (blk_cell BX.out 0).trans rfl; have hcz1 : w3.cell? ⟨g3, 1, none⟩ = some (.int .i64 0) := (blk_cell BX.out 1).trans rfl; have hcz2 : w3.cell? ⟨g3, 2, none⟩ = some (.int .i64 0) := (blk_cell BX.out 2).trans rfl; have hcz3 : w3.cell? ⟨g3, 3, none⟩ = some (.int .i64 0) := (blk_cell BX.out 3).trans rfl; have hfz0 := blk_frozen BX.out 0; have hfz1 := blk_frozen BX.out 1; have hfz2 := blk_frozen BX.out 2; have hfz3 := blk_frozen BX.out 3))
 have hle : w2.heap.size ≤ g3 := Nat.le_of_eq G3.out.symm
 have HB4 := Aside0.mk (below_step HB2.out (below_set (g := g3) (j := 3) (v := .int .i64 0) (below_set (g := g3) (j := 2) (v := .int .i64 0) (below_set (g := g3) (j := 1) (v := .int .i64 0) (below_set (g := g3) (j := 0) (v := .int .i64 0) HB3.out hle) hle) hle) hle))
 clear hcz0 hcz1 hcz2 hcz3 hfz0 hfz1 hfz2 hfz3 hle BX HB3 G3 HB HB1 HB2
 generalize ((((w3.setCell ⟨g3, 0, none⟩ (.int .i64 0)).setCell ⟨g3, 1, none⟩ (.int .i64 0)).setCell ⟨g3, 2, none⟩ (.int .i64 0)).setCell ⟨g3, 3, none⟩ (.int .i64 0)) = w4 at *
 go_upto_region 7 with (first
  | (go_at_call 43; (with_reducible refine (mn_Within_nil 1 _).mono ?_); rintro e w5 ⟨rfl, hb⟩; have HB5 := Aside0.mk (below_step HB4.out hb); clear hb)
  | (go_at_call 39; (with_reducible refine (meter_New.calls 0 0 0 0 w _ HB5.out HNEW.out).mono ?_); rintro e w6 ⟨g7, rfl, hI, hB1, hB2⟩; have HI6 := Aside0.mk hI; have HB6 := Aside0.mk hB1; clear hI hB1 hB2)
  | (go_at_call 42; (with_reducible refine (meter_Meter_Told.calls g7 0 0 0 0 0 0 0 0 0 0 0 0 0 w _ HI6.out HB6.out HTOLD.out).mono ?_); rintro e w7 ⟨rfl, hI, hB, hk⟩; have HI7 := Aside0.mk hI; have HB7 := Aside0.mk hB; clear hI hB hk)
  | ((with_reducible refine gate_dst (N := 8) rfl ?_); refine box_event ?hg (N := 8) ?hd (cs := #[.int .i64 0, .int .i64 0, .int .i64 0, .int .i64 0]) (t := 63) ?hr ?_; (case hd => rfl); (case hg => rfl); (case hr => first | (go_simp; done) | (go_simp; rfl)); intro g8 hg8 w8 hbox hb; have BX := Aside0.mk hbox; have G8 := Aside0.mk hg8; have HB8 := Aside0.mk hb; clear hbox hg8 hb; have hcz0 : w8.cell? ⟨g8, 0, none⟩ = some (.int .i64 0) := (blk_cell BX.out 0).trans rfl; have hcz1 : w8.cell? ⟨g8, 1, none⟩ = some (.int .i64 0) := (blk_cell BX.out 1).trans rfl; have hcz2 : w8.cell? ⟨g8, 2, none⟩ = some (.int .i64 0) := (blk_cell BX.out 2).trans rfl; have hcz3 : w8.cell? ⟨g8, 3, none⟩ = some (.int .i64 0) := (blk_cell BX.out 3).trans rfl; have hfz0 := blk_frozen BX.out 0; have hfz1 := blk_frozen BX.out 1; have hfz2 := blk_frozen BX.out 2; have hfz3 := blk_frozen BX.out 3))
 have hle : w7.heap.size ≤ g8 := Nat.le_of_eq G8.out.symm
 have HBW := Aside0.mk (below_set (g := g8) (j := 3) (v := .int .i64 0) (below_set (g := g8) (j := 2) (v := .int .i64 0) (below_set (g := g8) (j := 1) (v := .int .i64 0) (below_set (g := g8) (j := 0) (v := .int .i64 0) HB8.out hle) hle) hle) hle)
 have HZ := Aside0.mk (show mn_Z w ((((w8.setCell ⟨g8, 0, none⟩ (.int .i64 0)).setCell ⟨g8, 1, none⟩ (.int .i64 0)).setCell ⟨g8, 2, none⟩ (.int .i64 0)).setCell ⟨g8, 3, none⟩ (.int .i64 0)) g7 g8 0 0 0 0 from ⟨below_step HB7.out HBW.out, blk_below HI7.out.1 HBW.out, blk_put (cs := #[.int .i64 0, .int .i64 0, .int .i64 0, .int .i64 0]) (blk_put (cs := #[.int .i64 0, .int .i64 0, .int .i64 0, .int .i64 0]) (blk_put (cs := #[.int .i64 0, .int .i64 0, .int .i64 0, .int .i64 0]) (blk_put BX.out 0 (.int .i64 0) rfl) 1 (.int .i64 0) rfl) 2 (.int .i64 0) rfl) 3 (.int .i64 0) rfl, HI7.out.2, by have := blk_lt HI7.out.1; have := G8.out; omega⟩)
 clear hcz0 hcz1 hcz2 hcz3 hfz0 hfz1 hfz2 hfz3 hle BX HB8 G8 HB4 HB5 HB6 HI6 HI7 HB7 HBW
 generalize ((((w8.setCell ⟨g8, 0, none⟩ (.int .i64 0)).setCell ⟨g8, 1, none⟩ (.int .i64 0)).setCell ⟨g8, 2, none⟩ (.int .i64 0)).setCell ⟨g8, 3, none⟩ (.int .i64 0)) = w9 at *
 go_upto_region 9 with (first
  | (go_at_call 43; (with_reducible refine (meter_Meter_Within.calls g7 0 0 0 0 4611686018427387904 true 0 0 0 0 0 w _ HZ.out.i7 HZ.out.hB HW1.out).mono ?_); rintro e w10 ⟨rfl, hI, hB, hk⟩; have HZ1 := Aside0.mk (HZ.out.keep hI hB hk); clear hI hB hk)
  | (go_at_call 43; (with_reducible refine (meter_Meter_Within.calls g7 0 0 0 0 0 false 1 0 0 0 0 w _ HZ1.out.i7 HZ1.out.hB HW2.out).mono ?_); rintro e w11 ⟨rfl, hI, hB, hk⟩; have HZ2 := Aside0.mk (HZ1.out.keep hI hB hk); clear hI hB hk))
 have HZd := Aside0.mk HZ2.out.drew
 clear HZ HZ1
 refine start_ (n := 5) (S := fun w' => True) (ds := [3]) #[false, false, false, false, false] (by kernel_rfl) rfl rfl trivial (fun hHeld => ?_)
 refine pure_ (i := 0) (N := some 80) (v := ?_) (a' := ?_) #[true, false, false, false, false] rfl rfl (by kernel_rfl) (fun _ _ _ h => h) (Or.inl ⟨by rfl, ?_⟩) ?_ ?_
 rotate_left
 ·intro w'
  go_simp
  with_reducible rfl
 rotate_left
 ·simp only [Act.put, List.setIfInBounds_toArray, List.set_cons_zero, List.set_cons_succ, i64_w, i32_w]
  rfl
 refine join_ (σ := Value × Value) 2 #[true, true, true, false, false] (fun p => [(81, p.1), (82, p.2)]) (fun p w' => Kd.R Kd.bool 4 w' w.heap.size (fun _ => True) p.1 L1 ∧ Kd.R Kd.bool 4 w' w.heap.size (fun _ => True) p.2 L1 ∧ mn_Z w w' g7 g8 0 0 0 0) ?_ ?_
 rotate_left
 ·intro hCont
  refine two_ (i := 1) (j := 2) (Ni := some 81) (Nj := some 82) #[true, true, false, false, false] #[true, false, true, false, false] rfl rfl rfl rfl (by kernel_rfl) (by decide) (by decide) (fun K hK => ?_) (fun K hK => ?_)
  ·skip
   refine Kd.R_make_step Kd.bool (w0 := w) w.heap.size 4 (by rfl) (N := 81) rfl 36 _ _ rfl (32768 : Int) rfl rfl Try.underlying36 (.bool false) 1 info4 rfl (by decide) (by omega) false (ok := fun _ => True) (okp := fun _ => False) rfl (fun _ hk => hk.elim) trivial (by omega) (by decide) HZd.out.hB HZd.out.hB.size ?_
   intro va wa ho hb hg hn
   rw [HL1.out] at ho
   have HZa := Aside0.mk (HZd.out.grown hg hb)
   have HRa := Aside0.mk ho
   clear ho hb hg hn
   refine hK.out _ _ trivial (fun hHeld => ?_)
   clear hK K
   refine norm_ (a' := ?_) ?_ ?_
   rotate_left
   ·show Act.put _ (some 81) _ = _
    simp only [Act.put, List.setIfInBounds_toArray, List.set_cons_zero, List.set_cons_succ, i64_w, i32_w]
    rfl
   refine one_ (i := 2) (N := some 82) #[true, true, true, false, false] rfl rfl (by kernel_rfl) (by decide) (fun K hK => ?_)
   refine Kd.R_make_step Kd.bool (w0 := w) w.heap.size 4 (by rfl) (N := 82) rfl 36 _ _ rfl (32768 : Int) rfl rfl Try.underlying36 (.bool false) 1 info4 rfl (by decide) (by omega) false (ok := fun _ => True) (okp := fun _ => False) rfl (fun _ hk => hk.elim) trivial (by omega) (by decide) HZa.out.hB HZa.out.hB.size ?_
   intro vb wb ho hb hg hn
   rw [HL1.out] at ho
   have HZb := Aside0.mk (HZa.out.grown hg hb)
   have HRb := Aside0.mk ho
   have HRa2 := Aside0.mk (Kd.R_grown HRa.out hg (fun _ _ => by simp))
   clear ho hb hg hn
   refine hK.out _ _ trivial (fun hHeld => ?_)
   clear hK K
   refine norm_ (a' := ?_) ?_ ?_
   rotate_left
   ·show Act.put _ (some 82) _ = _
    simp only [Act.put, List.setIfInBounds_toArray, List.set_cons_zero, List.set_cons_succ, i64_w, i32_w]
    rfl
   exact norm_ (by simp only [putAll, Act.put, List.setIfInBounds_toArray, List.set_cons_zero, List.set_cons_succ]) (hCont (va, vb) _ ⟨HRa2.out, HRb.out, HZb.out⟩)
  ·skip
   refine Kd.R_make_step Kd.bool (w0 := w) w.heap.size 4 (by rfl) (N := 82) rfl 36 _ _ rfl (32768 : Int) rfl rfl Try.underlying36 (.bool false) 1 info4 rfl (by decide) (by omega) false (ok := fun _ => True) (okp := fun _ => False) rfl (fun _ hk => hk.elim) trivial (by omega) (by decide) HZd.out.hB HZd.out.hB.size ?_
   intro vb wa ho hb hg hn
   rw [HL1.out] at ho
   have HZa := Aside0.mk (HZd.out.grown hg hb)
   have HRb := Aside0.mk ho
   clear ho hb hg hn
   refine hK.out _ _ trivial (fun hHeld => ?_)
   clear hK K
   refine norm_ (a' := ?_) ?_ ?_
   rotate_left
   ·show Act.put _ (some 82) _ = _
    simp only [Act.put, List.setIfInBounds_toArray, List.set_cons_zero, List.set_cons_succ, i64_w, i32_w]
    rfl
   refine one_ (i := 1) (N := some 81) #[true, true, true, false, false] rfl rfl (by kernel_rfl) (by decide) (fun K hK => ?_)
   refine Kd.R_make_step Kd.bool (w0 := w) w.heap.size 4 (by rfl) (N := 81) rfl 36 _ _ rfl (32768 : Int) rfl rfl Try.underlying36 (.bool false) 1 info4 rfl (by decide) (by omega) false (ok := fun _ => True) (okp := fun _ => False) rfl (fun _ hk => hk.elim) trivial (by omega) (by decide) HZa.out.hB HZa.out.hB.size ?_
   intro va wb ho hb hg hn
   rw [HL1.out] at ho
   have HZb := Aside0.mk (HZa.out.grown hg hb)
   have HRa := Aside0.mk ho
   have HRb2 := Aside0.mk (Kd.R_grown HRb.out hg (fun _ _ => by simp))
   clear ho hb hg hn
   refine hK.out _ _ trivial (fun hHeld => ?_)
   clear hK K
   refine norm_ (a' := ?_) ?_ ?_
   rotate_left
   ·show Act.put _ (some 81) _ = _
    simp only [Act.put, List.setIfInBounds_toArray, List.set_cons_zero, List.set_cons_succ, i64_w, i32_w]
    rfl
   exact norm_ (by simp only [putAll, Act.put, List.setIfInBounds_toArray, List.set_cons_zero, List.set_cons_succ]) (hCont (va, vb) _ ⟨HRa.out, HRb2.out, HZb.out⟩)
 rintro ⟨va, vb⟩ wy ⟨f1, f2, f3⟩
 have HRa := Aside0.mk f1
 have HRb := Aside0.mk f2
 have HZb := Aside0.mk f3
 obtain ⟨Qa, qa, rfl⟩ := Kd.R_slice f1
 obtain ⟨Qb, qb, rfl⟩ := Kd.R_slice f2
 clear f1 f2 f3
 have HZa := HZb
 have hHeld : True := trivial
 refine norm_ (a' := ?_) ?_ ?_
 rotate_left
 ·simp only [putAll, Act.put, List.setIfInBounds_toArray, List.set_cons_zero, List.set_cons_succ]
  rfl
 refine last_ (i := 3) (N := some 83) #[true, true, true, true, false] rfl rfl (by kernel_rfl) (by decide) (fun K hK => ?_)
 refine goes_ Try.func41 (by kernel_rfl) rfl #[.pointer (some ⟨g7, 0, none⟩), .slice Qa L1.length qa, .slice Qb L1.length qb] (by rfl) rfl rfl (by simp only [List.map_toArray, List.map_cons, List.map_nil]; rfl) ?_
 with_reducible refine (mtr_Count.calls k g7 0 0 0 0 Qa qa L1 Qb qb L1 a1 a2 0 w _ HZb.out.i7 HZb.out.hB (Kd.R_reads' HRa.out).2.2 (Kd.R_reads' HRa.out).2.1 (Kd.R_reads' HRb.out).2.2 (Kd.R_reads' HRb.out).2.1 HA.out).mono ?_
 rintro e wc ⟨rfl, hI, hB, hk⟩
 refine ⟨_, rfl, ?_⟩
 have HZc := Aside0.mk (HZb.out.keep hI hB hk)
 clear hI hB hk
 refine hK.out _ _ ?_
 clear hK K
 refine norm_ (a' := ?_) ?_ ?_
 rotate_left
 ·show Act.put _ (some 83) _ = _
  simp only [Act.put, List.setIfInBounds_toArray, List.set_cons_zero, List.set_cons_succ, i64_w, i32_w]
  rfl
 refine pure_ (i := 4) (N := some 14) (v := ?_) (a' := ?_) #[true, true, true, true, true] rfl rfl (by kernel_rfl) (fun _ _ _ h => h) (Or.inl ⟨by rfl, ?_⟩) ?_ ?_
 rotate_left
 ·intro w'
  go_simp
  with_reducible rfl
 rotate_left
 ·simp only [Act.put, List.setIfInBounds_toArray, List.set_cons_zero, List.set_cons_succ, i64_w, i32_w]
  rfl
 refine done_ (by kernel_rfl) ?_
 obtain ⟨n1, n2, n3, n4, HZ3⟩ : ∃ n1 n2 n3 n4, Aside0 (mn_Z w wc g7 g8 n1 n2 n3 n4) := ⟨_, _, _, _, HZc⟩
 clear HZd HZ2 HZa HZb HRa HRb HZc
 go_upto_region 10 with (fail)
 have HZd := Aside0.mk HZ3.out.drew
 refine start_ (n := 5) (S := fun w' => True) (ds := [3]) #[false, false, false, false, false] (by kernel_rfl) rfl rfl trivial (fun hHeld => ?_)
 refine pure_ (i := 0) (N := some 84) (v := ?_) (a' := ?_) #[true, false, false, false, false] rfl rfl (by kernel_rfl) (fun _ _ _ h => h) (Or.inl ⟨by rfl, ?_⟩) ?_ ?_
 rotate_left
 ·intro w'
  go_simp
  with_reducible rfl
 rotate_left
 ·simp only [Act.put, List.setIfInBounds_toArray, List.set_cons_zero, List.set_cons_succ, i64_w, i32_w]
  rfl
 refine join_ (σ := Value × Value) 2 #[true, true, true, false, false] (fun p => [(85, p.1), (86, p.2)]) (fun p w' => Kd.R Kd.bool 4 w' w.heap.size (fun _ => True) p.1 L2 ∧ Kd.R Kd.bool 4 w' w.heap.size (fun _ => True) p.2 L2 ∧ mn_Z w w' g7 g8 n1 n2 n3 n4) ?_ ?_
 rotate_left
 ·intro hCont
  refine two_ (i := 1) (j := 2) (Ni := some 85) (Nj := some 86) #[true, true, false, false, false] #[true, false, true, false, false] rfl rfl rfl rfl (by kernel_rfl) (by decide) (by decide) (fun K hK => ?_) (fun K hK => ?_)
  ·skip
   refine Kd.R_make_step Kd.bool (w0 := w) w.heap.size 4 (by rfl) (N := 85) rfl 36 _ _ rfl (32769 : Int) rfl rfl Try.underlying36 (.bool false) 1 info4 rfl (by decide) (by omega) false (ok := fun _ => True) (okp := fun _ => False) rfl (fun _ hk => hk.elim) trivial (by omega) (by decide) HZd.out.hB HZd.out.hB.size ?_
   intro va wa ho hb hg hn
   rw [HL2.out] at ho
   have HZa := Aside0.mk (HZd.out.grown hg hb)
   have HRa := Aside0.mk ho
   clear ho hb hg hn
   refine hK.out _ _ trivial (fun hHeld => ?_)
   clear hK K
   refine norm_ (a' := ?_) ?_ ?_
   rotate_left
   ·show Act.put _ (some 85) _ = _
    simp only [Act.put, List.setIfInBounds_toArray, List.set_cons_zero, List.set_cons_succ, i64_w, i32_w]
    rfl
   refine one_ (i := 2) (N := some 86) #[true, true, true, false, false] rfl rfl (by kernel_rfl) (by decide) (fun K hK => ?_)
   refine Kd.R_make_step Kd.bool (w0 := w) w.heap.size 4 (by rfl) (N := 86) rfl 36 _ _ rfl (32769 : Int) rfl rfl Try.underlying36 (.bool false) 1 info4 rfl (by decide) (by omega) false (ok := fun _ => True) (okp := fun _ => False) rfl (fun _ hk => hk.elim) trivial (by omega) (by decide) HZa.out.hB HZa.out.hB.size ?_
   intro vb wb ho hb hg hn
   rw [HL2.out] at ho
   have HZb := Aside0.mk (HZa.out.grown hg hb)
   have HRb := Aside0.mk ho
   have HRa2 := Aside0.mk (Kd.R_grown HRa.out hg (fun _ _ => by simp))
   clear ho hb hg hn
   refine hK.out _ _ trivial (fun hHeld => ?_)
   clear hK K
   refine norm_ (a' := ?_) ?_ ?_
   rotate_left
   ·show Act.put _ (some 86) _ = _
    simp only [Act.put, List.setIfInBounds_toArray, List.set_cons_zero, List.set_cons_succ, i64_w, i32_w]
    rfl
   exact norm_ (by simp only [putAll, Act.put, List.setIfInBounds_toArray, List.set_cons_zero, List.set_cons_succ]) (hCont (va, vb) _ ⟨HRa2.out, HRb.out, HZb.out⟩)
  ·skip
   refine Kd.R_make_step Kd.bool (w0 := w) w.heap.size 4 (by rfl) (N := 86) rfl 36 _ _ rfl (32769 : Int) rfl rfl Try.underlying36 (.bool false) 1 info4 rfl (by decide) (by omega) false (ok := fun _ => True) (okp := fun _ => False) rfl (fun _ hk => hk.elim) trivial (by omega) (by decide) HZd.out.hB HZd.out.hB.size ?_
   intro vb wa ho hb hg hn
   rw [HL2.out] at ho
   have HZa := Aside0.mk (HZd.out.grown hg hb)
   have HRb := Aside0.mk ho
   clear ho hb hg hn
   refine hK.out _ _ trivial (fun hHeld => ?_)
   clear hK K
   refine norm_ (a' := ?_) ?_ ?_
   rotate_left
   ·show Act.put _ (some 86) _ = _
    simp only [Act.put, List.setIfInBounds_toArray, List.set_cons_zero, List.set_cons_succ, i64_w, i32_w]
    rfl
   refine one_ (i := 1) (N := some 85) #[true, true, true, false, false] rfl rfl (by kernel_rfl) (by decide) (fun K hK => ?_)
   refine Kd.R_make_step Kd.bool (w0 := w) w.heap.size 4 (by rfl) (N := 85) rfl 36 _ _ rfl (32769 : Int) rfl rfl Try.underlying36 (.bool false) 1 info4 rfl (by decide) (by omega) false (ok := fun _ => True) (okp := fun _ => False) rfl (fun _ hk => hk.elim) trivial (by omega) (by decide) HZa.out.hB HZa.out.hB.size ?_
   intro va wb ho hb hg hn
   rw [HL2.out] at ho
   have HZb := Aside0.mk (HZa.out.grown hg hb)
   have HRa := Aside0.mk ho
   have HRb2 := Aside0.mk (Kd.R_grown HRb.out hg (fun _ _ => by simp))
   clear ho hb hg hn
   refine hK.out _ _ trivial (fun hHeld => ?_)
   clear hK K
   refine norm_ (a' := ?_) ?_ ?_
   rotate_left
   ·show Act.put _ (some 85) _ = _
    simp only [Act.put, List.setIfInBounds_toArray, List.set_cons_zero, List.set_cons_succ, i64_w, i32_w]
    rfl
   exact norm_ (by simp only [putAll, Act.put, List.setIfInBounds_toArray, List.set_cons_zero, List.set_cons_succ]) (hCont (va, vb) _ ⟨HRa.out, HRb2.out, HZb.out⟩)
 rintro ⟨va, vb⟩ wy ⟨f1, f2, f3⟩
 have HRa := Aside0.mk f1
 have HRb := Aside0.mk f2
 have HZb := Aside0.mk f3
 obtain ⟨Qa, qa, rfl⟩ := Kd.R_slice f1
 obtain ⟨Qb, qb, rfl⟩ := Kd.R_slice f2
 clear f1 f2 f3
 have HZa := HZb
 have hHeld : True := trivial
 refine norm_ (a' := ?_) ?_ ?_
 rotate_left
 ·simp only [putAll, Act.put, List.setIfInBounds_toArray, List.set_cons_zero, List.set_cons_succ]
  rfl
 refine last_ (i := 3) (N := some 87) #[true, true, true, true, false] rfl rfl (by kernel_rfl) (by decide) (fun K hK => ?_)
 refine goes_ Try.func41 (by kernel_rfl) rfl #[.pointer (some ⟨g7, 0, none⟩), .slice Qa L2.length qa, .slice Qb L2.length qb] (by rfl) rfl rfl (by simp only [List.map_toArray, List.map_cons, List.map_nil]; rfl) ?_
 with_reducible refine (mtr_Count.calls k g7 n1 n2 n3 n4 Qa qa L2 Qb qb L2 b1 b2 1 w _ HZb.out.i7 HZb.out.hB (Kd.R_reads' HRa.out).2.2 (Kd.R_reads' HRa.out).2.1 (Kd.R_reads' HRb.out).2.2 (Kd.R_reads' HRb.out).2.1 HBb.out).mono ?_
 rintro e wc ⟨rfl, hI, hB, hk⟩
 refine ⟨_, rfl, ?_⟩
 have HZc := Aside0.mk (HZb.out.keep hI hB hk)
 clear hI hB hk
 refine hK.out _ _ ?_
 clear hK K
 refine norm_ (a' := ?_) ?_ ?_
 rotate_left
 ·show Act.put _ (some 87) _ = _
  simp only [Act.put, List.setIfInBounds_toArray, List.set_cons_zero, List.set_cons_succ, i64_w, i32_w]
  rfl
 refine pure_ (i := 4) (N := some 15) (v := ?_) (a' := ?_) #[true, true, true, true, true] rfl rfl (by kernel_rfl) (fun _ _ _ h => h) (Or.inl ⟨by rfl, ?_⟩) ?_ ?_
 rotate_left
 ·intro w'
  go_simp
  with_reducible rfl
 rotate_left
 ·simp only [Act.put, List.setIfInBounds_toArray, List.set_cons_zero, List.set_cons_succ, i64_w, i32_w]
  rfl
 refine done_ (by kernel_rfl) ?_
 obtain ⟨n1, n2, n3, n4, HZ4⟩ : ∃ n1 n2 n3 n4, Aside0 (mn_Z w wc g7 g8 n1 n2 n3 n4) := ⟨_, _, _, _, HZc⟩
 clear HZd HZ3 HZa HZb HRa HRb HZc
 go_upto_region 17 with (first
  | ((with_reducible refine gate_dst (N := 89) rfl ?_); refine Kd.R_make Kd.bool (w0 := w) w.heap.size 4 rfl (N := 89) rfl 36 _ _ rfl (1 : Int) rfl rfl Try.underlying36 (.bool false) 1 info4 rfl (by decide) (by omega) false (ok := fun _ => True) (okp := fun _ => False) rfl (fun _ hk => hk.elim) trivial (by omega) (by decide) HZ4.out.hB HZ4.out.hB.size ?_; intro v1 w12 ho hb hg hn; rw [HL3.out] at ho; obtain ⟨Qa, qa, rfl⟩ := Kd.R_slice ho; have HRa := Aside0.mk ho; have HZ5 := Aside0.mk (HZ4.out.grown hg hb); clear ho hb hg hn)
  | (go_at_call 41; refine (mtr_Count.calls k g7 n1 n2 n3 n4 none 0 [] Qa qa L3 c1 c2 1 w _ HZ5.out.i7 HZ5.out.hB (Kd.C_nil _ _) (Nat.le_refl _) (Kd.R_reads' HRa.out).2.2 (Kd.R_reads' HRa.out).2.1 HC.out).mono ?_; rintro e w13 ⟨rfl, hI, hB, hk⟩; have HZ6 := Aside0.mk (HZ5.out.keep hI hB hk); clear hI hB hk HRa)
  | (go_at_call 32; (with_reducible refine (mn_Errors_nil k d1 d2 0 HD.out _).mono ?_); rintro e w14 ⟨rfl, hb⟩; have HZ7 := Aside0.mk (HZ6.out.below hb); clear hb)
  | (go_at_call 34; (with_reducible refine (mn_Runs_nil k (-1) r1 1 HE.out _).mono ?_); rintro e w15 ⟨Qr, qr, rfl, hb⟩; have HZ8 := Aside0.mk (HZ7.out.below hb); clear hb)
  | (go_at_call 34; (with_reducible refine (mn_Runs_nil k 4611686018427387904 [] 0 HF.out _).mono ?_); rintro e w16 ⟨Qs, qs, rfl, hb⟩; have HZ9 := Aside0.mk (HZ8.out.below hb); clear hb)
  | (go_at_call 57; (with_reducible refine (meter_Nearest.calls k 8 (0, 0) p1 p2 p3 1 _ HG.out).mono ?_); rintro e w17 ⟨rfl, hb⟩; have HZ10 := Aside0.mk (HZ9.out.below hb); clear hb)
  | (go_at_call 57; (with_reducible refine (meter_Nearest.calls k 4 (4547007122018943789, 0) q1 q2 q3 7 _ HH.out).mono ?_); rintro e w18 ⟨rfl, hb⟩; have HZ11 := Aside0.mk (HZ10.out.below hb); clear hb))
 have HZd := Aside0.mk HZ11.out.drew
 clear HZ4 HZ5 HZ6 HZ7 HZ8 HZ9 HZ10
 refine start_ (n := 12) (S := fun w' => True) (ds := [2]) #[false, false, false, false, false, false, false, false, false, false, false, false] (by kernel_rfl) rfl rfl trivial (fun hHeld => ?_)
 refine join_ (σ := Value × Value) 10 #[true, true, false, false, false, false, false, false, false, false, false, false] (fun p => [(117, p.1), (118, p.2)]) (fun p w' => Kd.R k101 101 w' w.heap.size (fun _ => True) p.1 L5 ∧ Kd.R Kd.cplx 32 w' w.heap.size (fun _ => True) p.2 M5 ∧ mn_Z w w' g7 g8 n1 n2 n3 n4) ?_ ?_
 rotate_left
 ·intro hCont
  refine two_ (i := 0) (j := 1) (Ni := some 117) (Nj := some 118) #[true, false, false, false, false, false, false, false, false, false, false, false] #[false, true, false, false, false, false, false, false, false, false, false, false] rfl rfl rfl rfl (by kernel_rfl) (by decide) (by decide) (fun K hK => ?_) (fun K hK => ?_)
  ·skip
   refine Kd.R_make_step k101 (w0 := w) w.heap.size 101 (by rfl) (N := 117) rfl 95 _ _ rfl (65 : Int) rfl rfl Try.underlying95 (.agg #[(.complex .f64 0 0), (.bool false)]) 24 info101 rfl (by decide) (by omega) z101 (ok := fun _ => True) (okp := fun _ => False) (k101_mkM _ _ _ z101) (fun _ hk => hk.elim) trivial (by omega) (by decide) HZd.out.hB HZd.out.hB.size ?_
   intro va wa ho hb hg hn
   rw [HL5.out] at ho
   have HZa := Aside0.mk (HZd.out.grown hg hb)
   have HRa := Aside0.mk ho
   clear ho hb hg hn
   refine hK.out _ _ trivial (fun hHeld => ?_)
   clear hK K
   refine norm_ (a' := ?_) ?_ ?_
   rotate_left
   ·show Act.put _ (some 117) _ = _
    simp only [Act.put, List.setIfInBounds_toArray, List.set_cons_zero, List.set_cons_succ, i64_w, i32_w]
    rfl
   refine one_ (i := 1) (N := some 118) #[true, true, false, false, false, false, false, false, false, false, false, false] rfl rfl (by kernel_rfl) (by decide) (fun K hK => ?_)
   refine Kd.R_make_step Kd.cplx (w0 := w) w.heap.size 32 (by rfl) (N := 118) rfl 24 _ _ rfl (65 : Int) rfl rfl Try.underlying24 (.complex .f64 0 0) 16 info32 rfl (by decide) (by omega) ((0, 0) : Nat × Nat) (ok := fun _ => True) (okp := fun _ => False) rfl (fun _ hk => hk.elim) trivial (by omega) (by decide) HZa.out.hB HZa.out.hB.size ?_
   intro vb wb ho hb hg hn
   rw [HM5.out] at ho
   have HZb := Aside0.mk (HZa.out.grown hg hb)
   have HRb := Aside0.mk ho
   have HRa2 := Aside0.mk (Kd.R_grown HRa.out hg (fun _ _ => by simp))
   clear ho hb hg hn
   refine hK.out _ _ trivial (fun hHeld => ?_)
   clear hK K
   refine norm_ (a' := ?_) ?_ ?_
   rotate_left
   ·show Act.put _ (some 118) _ = _
    simp only [Act.put, List.setIfInBounds_toArray, List.set_cons_zero, List.set_cons_succ, i64_w, i32_w]
    rfl
   exact norm_ (by simp only [putAll, Act.put, List.setIfInBounds_toArray, List.set_cons_zero, List.set_cons_succ]) (hCont (va, vb) _ ⟨HRa2.out, HRb.out, HZb.out⟩)
  ·skip
   refine Kd.R_make_step Kd.cplx (w0 := w) w.heap.size 32 (by rfl) (N := 118) rfl 24 _ _ rfl (65 : Int) rfl rfl Try.underlying24 (.complex .f64 0 0) 16 info32 rfl (by decide) (by omega) ((0, 0) : Nat × Nat) (ok := fun _ => True) (okp := fun _ => False) rfl (fun _ hk => hk.elim) trivial (by omega) (by decide) HZd.out.hB HZd.out.hB.size ?_
   intro vb wa ho hb hg hn
   rw [HM5.out] at ho
   have HZa := Aside0.mk (HZd.out.grown hg hb)
   have HRb := Aside0.mk ho
   clear ho hb hg hn
   refine hK.out _ _ trivial (fun hHeld => ?_)
   clear hK K
   refine norm_ (a' := ?_) ?_ ?_
   rotate_left
   ·show Act.put _ (some 118) _ = _
    simp only [Act.put, List.setIfInBounds_toArray, List.set_cons_zero, List.set_cons_succ, i64_w, i32_w]
    rfl
   refine one_ (i := 0) (N := some 117) #[true, true, false, false, false, false, false, false, false, false, false, false] rfl rfl (by kernel_rfl) (by decide) (fun K hK => ?_)
   refine Kd.R_make_step k101 (w0 := w) w.heap.size 101 (by rfl) (N := 117) rfl 95 _ _ rfl (65 : Int) rfl rfl Try.underlying95 (.agg #[(.complex .f64 0 0), (.bool false)]) 24 info101 rfl (by decide) (by omega) z101 (ok := fun _ => True) (okp := fun _ => False) (k101_mkM _ _ _ z101) (fun _ hk => hk.elim) trivial (by omega) (by decide) HZa.out.hB HZa.out.hB.size ?_
   intro va wb ho hb hg hn
   rw [HL5.out] at ho
   have HZb := Aside0.mk (HZa.out.grown hg hb)
   have HRa := Aside0.mk ho
   have HRb2 := Aside0.mk (Kd.R_grown HRb.out hg (fun _ _ => by simp))
   clear ho hb hg hn
   refine hK.out _ _ trivial (fun hHeld => ?_)
   clear hK K
   refine norm_ (a' := ?_) ?_ ?_
   rotate_left
   ·show Act.put _ (some 117) _ = _
    simp only [Act.put, List.setIfInBounds_toArray, List.set_cons_zero, List.set_cons_succ, i64_w, i32_w]
    rfl
   exact norm_ (by simp only [putAll, Act.put, List.setIfInBounds_toArray, List.set_cons_zero, List.set_cons_succ]) (hCont (va, vb) _ ⟨HRa.out, HRb2.out, HZb.out⟩)
 rintro ⟨va, vb⟩ wy ⟨f1, f2, f3⟩
 have HRa := Aside0.mk f1
 have HRb := Aside0.mk f2
 have HZb := Aside0.mk f3
 obtain ⟨Qa, qa, rfl⟩ := Kd.R_slice f1
 obtain ⟨Qb, qb, rfl⟩ := Kd.R_slice f2
 clear f1 f2 f3
 have HZa := HZb
 have hHeld : True := trivial
 refine norm_ (a' := ?_) ?_ ?_
 rotate_left
 ·simp only [putAll, Act.put, List.setIfInBounds_toArray, List.set_cons_zero, List.set_cons_succ]
  rfl
 refine last_ (i := 2) (N := some 119) #[true, true, true, false, false, false, false, false, false, false, false, false] rfl rfl (by kernel_rfl) (by decide) (fun K hK => ?_)
 refine goes_ Try.func60 (by kernel_rfl) rfl #[.slice Qa L5.length qa, .slice Qb M5.length qb] (by rfl) rfl rfl (by simp only [List.map_toArray, List.map_cons, List.map_nil]; rfl) ?_
 with_reducible refine (mn_Off_no Qa L5.length qa Qb M5.length qb HX5.out _).mono ?_
 rintro e wc ⟨rfl, hb⟩
 refine ⟨_, rfl, ?_⟩
 have HZc := Aside0.mk (HZb.out.below hb)
 clear hb
 refine hK.out _ _ ?_
 clear hK K
 refine norm_ (a' := ?_) ?_ ?_
 rotate_left
 ·show Act.put _ (some 119) _ = _
  simp only [Act.put, List.setIfInBounds_toArray, List.set_cons_zero, List.set_cons_succ, i64_w, i32_w]
  rfl
 refine pure_ (i := 3) (N := some 116) (v := ?_) (a' := ?_) #[true, true, true, true, false, false, false, false, false, false, false, false] rfl rfl (by kernel_rfl) (fun _ _ _ h => h) (Or.inl ⟨by rfl, ?_⟩) ?_ ?_
 rotate_left
 ·intro w'
  go_simp
  with_reducible rfl
 rotate_left
 ·simp only [Act.put, List.setIfInBounds_toArray, List.set_cons_zero, List.set_cons_succ, i64_w, i32_w]
  rfl
 refine pure_ (i := 4) (N := some 120) (v := ?_) (a' := ?_) #[true, true, true, true, true, false, false, false, false, false, false, false] rfl rfl (by kernel_rfl) (fun _ _ _ h => h) (Or.inl ⟨by rfl, ?_⟩) ?_ ?_
 rotate_left
 ·intro w'
  go_simp
  with_reducible rfl
 rotate_left
 ·simp only [Act.put, List.setIfInBounds_toArray, List.set_cons_zero, List.set_cons_succ, i64_w, i32_w]
  rfl
 refine pure_ (i := 5) (N := some 121) (v := ?_) (a' := ?_) #[true, true, true, true, true, true, false, false, false, false, false, false] rfl rfl (by kernel_rfl) (fun _ _ _ h => h) (Or.inl ⟨by rfl, ?_⟩) ?_ ?_
 rotate_left
 ·intro w'
  go_simp
  with_reducible rfl
 rotate_left
 ·simp only [Act.put, List.setIfInBounds_toArray, List.set_cons_zero, List.set_cons_succ, i64_w, i32_w]
  rfl
 refine pure_ (i := 6) (N := some 122) (v := ?_) (a' := ?_) #[true, true, true, true, true, true, true, false, false, false, false, false] rfl rfl (by kernel_rfl) (fun _ _ _ h => h) (Or.inl ⟨by rfl, ?_⟩) ?_ ?_
 rotate_left
 ·intro w'
  go_simp
  with_reducible rfl
 rotate_left
 ·simp only [Act.put, List.setIfInBounds_toArray, List.set_cons_zero, List.set_cons_succ, i64_w, i32_w]
  rfl
 refine pure_ (i := 7) (N := some 123) (v := ?_) (a' := ?_) #[true, true, true, true, true, true, true, true, false, false, false, false] rfl rfl (by kernel_rfl) (fun _ _ _ h => h) (Or.inl ⟨by rfl, ?_⟩) ?_ ?_
 rotate_left
 ·intro w'
  go_simp
  with_reducible rfl
 rotate_left
 ·simp only [Act.put, List.setIfInBounds_toArray, List.set_cons_zero, List.set_cons_succ, i64_w, i32_w]
  rfl
 refine pure_ (i := 8) (N := some 32) (v := ?_) (a' := ?_) #[true, true, true, true, true, true, true, true, true, false, false, false] rfl rfl (by kernel_rfl) (fun _ _ _ h => h) (Or.inl ⟨by rfl, ?_⟩) ?_ ?_
 rotate_left
 ·intro w'
  go_simp
  with_reducible rfl
 rotate_left
 ·simp only [Act.put, List.setIfInBounds_toArray, List.set_cons_zero, List.set_cons_succ, i64_w, i32_w]
  rfl
 refine pure_ (i := 9) (N := some 33) (v := ?_) (a' := ?_) #[true, true, true, true, true, true, true, true, true, true, false, false] rfl rfl (by kernel_rfl) (fun _ _ _ h => h) (Or.inl ⟨by rfl, ?_⟩) ?_ ?_
 rotate_left
 ·intro w'
  go_simp
  with_reducible rfl
 rotate_left
 ·simp only [Act.put, List.setIfInBounds_toArray, List.set_cons_zero, List.set_cons_succ, i64_w, i32_w]
  rfl
 refine pure_ (i := 10) (N := some 34) (v := ?_) (a' := ?_) #[true, true, true, true, true, true, true, true, true, true, true, false] rfl rfl (by kernel_rfl) (fun _ _ _ h => h) (Or.inl ⟨by rfl, ?_⟩) ?_ ?_
 rotate_left
 ·intro w'
  go_simp
  with_reducible rfl
 rotate_left
 ·simp only [Act.put, List.setIfInBounds_toArray, List.set_cons_zero, List.set_cons_succ, i64_w, i32_w]
  rfl
 refine pure_ (i := 11) (N := some 35) (v := ?_) (a' := ?_) #[true, true, true, true, true, true, true, true, true, true, true, true] rfl rfl (by kernel_rfl) (fun _ _ _ h => h) (Or.inl ⟨by rfl, ?_⟩) ?_ ?_
 rotate_left
 ·intro w'
  go_simp
  with_reducible rfl
 rotate_left
 ·simp only [Act.put, List.setIfInBounds_toArray, List.set_cons_zero, List.set_cons_succ, i64_w, i32_w]
  rfl
 refine done_ (by kernel_rfl) ?_
 have HZ12 := HZc
 clear HZd HZ11 HZa HZb HRa HRb HZc
 go_upto_region 18 with (fail)
 have HZd := Aside0.mk HZ12.out.drew
 refine start_ (n := 12) (S := fun w' => True) (ds := [2]) #[false, false, false, false, false, false, false, false, false, false, false, false] (by kernel_rfl) rfl rfl trivial (fun hHeld => ?_)
 refine join_ (σ := Value × Value) 10 #[true, true, false, false, false, false, false, false, false, false, false, false] (fun p => [(125, p.1), (126, p.2)]) (fun p w' => Kd.R k101 101 w' w.heap.size (fun _ => True) p.1 L6 ∧ Kd.R Kd.cplx 32 w' w.heap.size (fun _ => True) p.2 M6 ∧ mn_Z w w' g7 g8 n1 n2 n3 n4) ?_ ?_
 rotate_left
 ·intro hCont
  refine two_ (i := 0) (j := 1) (Ni := some 125) (Nj := some 126) #[true, false, false, false, false, false, false, false, false, false, false, false] #[false, true, false, false, false, false, false, false, false, false, false, false] rfl rfl rfl rfl (by kernel_rfl) (by decide) (by decide) (fun K hK => ?_) (fun K hK => ?_)
  ·skip
   refine Kd.R_make_step k101 (w0 := w) w.heap.size 101 (by rfl) (N := 125) rfl 95 _ _ rfl (2 : Int) rfl rfl Try.underlying95 (.agg #[(.complex .f64 0 0), (.bool false)]) 24 info101 rfl (by decide) (by omega) z101 (ok := fun _ => True) (okp := fun _ => False) (k101_mkM _ _ _ z101) (fun _ hk => hk.elim) trivial (by omega) (by decide) HZd.out.hB HZd.out.hB.size ?_
   intro va wa ho hb hg hn
   rw [HL6.out] at ho
   have HZa := Aside0.mk (HZd.out.grown hg hb)
   have HRa := Aside0.mk ho
   clear ho hb hg hn
   refine hK.out _ _ trivial (fun hHeld => ?_)
   clear hK K
   refine norm_ (a' := ?_) ?_ ?_
   rotate_left
   ·show Act.put _ (some 125) _ = _
    simp only [Act.put, List.setIfInBounds_toArray, List.set_cons_zero, List.set_cons_succ, i64_w, i32_w]
    rfl
   refine one_ (i := 1) (N := some 126) #[true, true, false, false, false, false, false, false, false, false, false, false] rfl rfl (by kernel_rfl) (by decide) (fun K hK => ?_)
   refine Kd.R_make_step Kd.cplx (w0 := w) w.heap.size 32 (by rfl) (N := 126) rfl 24 _ _ rfl (1 : Int) rfl rfl Try.underlying24 (.complex .f64 0 0) 16 info32 rfl (by decide) (by omega) ((0, 0) : Nat × Nat) (ok := fun _ => True) (okp := fun _ => False) rfl (fun _ hk => hk.elim) trivial (by omega) (by decide) HZa.out.hB HZa.out.hB.size ?_
   intro vb wb ho hb hg hn
   rw [HM6.out] at ho
   have HZb := Aside0.mk (HZa.out.grown hg hb)
   have HRb := Aside0.mk ho
   have HRa2 := Aside0.mk (Kd.R_grown HRa.out hg (fun _ _ => by simp))
   clear ho hb hg hn
   refine hK.out _ _ trivial (fun hHeld => ?_)
   clear hK K
   refine norm_ (a' := ?_) ?_ ?_
   rotate_left
   ·show Act.put _ (some 126) _ = _
    simp only [Act.put, List.setIfInBounds_toArray, List.set_cons_zero, List.set_cons_succ, i64_w, i32_w]
    rfl
   exact norm_ (by simp only [putAll, Act.put, List.setIfInBounds_toArray, List.set_cons_zero, List.set_cons_succ]) (hCont (va, vb) _ ⟨HRa2.out, HRb.out, HZb.out⟩)
  ·skip
   refine Kd.R_make_step Kd.cplx (w0 := w) w.heap.size 32 (by rfl) (N := 126) rfl 24 _ _ rfl (1 : Int) rfl rfl Try.underlying24 (.complex .f64 0 0) 16 info32 rfl (by decide) (by omega) ((0, 0) : Nat × Nat) (ok := fun _ => True) (okp := fun _ => False) rfl (fun _ hk => hk.elim) trivial (by omega) (by decide) HZd.out.hB HZd.out.hB.size ?_
   intro vb wa ho hb hg hn
   rw [HM6.out] at ho
   have HZa := Aside0.mk (HZd.out.grown hg hb)
   have HRb := Aside0.mk ho
   clear ho hb hg hn
   refine hK.out _ _ trivial (fun hHeld => ?_)
   clear hK K
   refine norm_ (a' := ?_) ?_ ?_
   rotate_left
   ·show Act.put _ (some 126) _ = _
    simp only [Act.put, List.setIfInBounds_toArray, List.set_cons_zero, List.set_cons_succ, i64_w, i32_w]
    rfl
   refine one_ (i := 0) (N := some 125) #[true, true, false, false, false, false, false, false, false, false, false, false] rfl rfl (by kernel_rfl) (by decide) (fun K hK => ?_)
   refine Kd.R_make_step k101 (w0 := w) w.heap.size 101 (by rfl) (N := 125) rfl 95 _ _ rfl (2 : Int) rfl rfl Try.underlying95 (.agg #[(.complex .f64 0 0), (.bool false)]) 24 info101 rfl (by decide) (by omega) z101 (ok := fun _ => True) (okp := fun _ => False) (k101_mkM _ _ _ z101) (fun _ hk => hk.elim) trivial (by omega) (by decide) HZa.out.hB HZa.out.hB.size ?_
   intro va wb ho hb hg hn
   rw [HL6.out] at ho
   have HZb := Aside0.mk (HZa.out.grown hg hb)
   have HRa := Aside0.mk ho
   have HRb2 := Aside0.mk (Kd.R_grown HRb.out hg (fun _ _ => by simp))
   clear ho hb hg hn
   refine hK.out _ _ trivial (fun hHeld => ?_)
   clear hK K
   refine norm_ (a' := ?_) ?_ ?_
   rotate_left
   ·show Act.put _ (some 125) _ = _
    simp only [Act.put, List.setIfInBounds_toArray, List.set_cons_zero, List.set_cons_succ, i64_w, i32_w]
    rfl
   exact norm_ (by simp only [putAll, Act.put, List.setIfInBounds_toArray, List.set_cons_zero, List.set_cons_succ]) (hCont (va, vb) _ ⟨HRa.out, HRb2.out, HZb.out⟩)
 rintro ⟨va, vb⟩ wy ⟨f1, f2, f3⟩
 have HRa := Aside0.mk f1
 have HRb := Aside0.mk f2
 have HZb := Aside0.mk f3
 obtain ⟨Qa, qa, rfl⟩ := Kd.R_slice f1
 obtain ⟨Qb, qb, rfl⟩ := Kd.R_slice f2
 clear f1 f2 f3
 have HZa := HZb
 have hHeld : True := trivial
 refine norm_ (a' := ?_) ?_ ?_
 rotate_left
 ·simp only [putAll, Act.put, List.setIfInBounds_toArray, List.set_cons_zero, List.set_cons_succ]
  rfl
 refine last_ (i := 2) (N := some 127) #[true, true, true, false, false, false, false, false, false, false, false, false] rfl rfl (by kernel_rfl) (by decide) (fun K hK => ?_)
 refine goes_ Try.func60 (by kernel_rfl) rfl #[.slice Qa L6.length qa, .slice Qb M6.length qb] (by rfl) rfl rfl (by simp only [List.map_toArray, List.map_cons, List.map_nil]; rfl) ?_
 with_reducible refine (mn_Off_no Qa L6.length qa Qb M6.length qb HX6.out _).mono ?_
 rintro e wc ⟨rfl, hb⟩
 refine ⟨_, rfl, ?_⟩
 have HZc := Aside0.mk (HZb.out.below hb)
 clear hb
 refine hK.out _ _ ?_
 clear hK K
 refine norm_ (a' := ?_) ?_ ?_
 rotate_left
 ·show Act.put _ (some 127) _ = _
  simp only [Act.put, List.setIfInBounds_toArray, List.set_cons_zero, List.set_cons_succ, i64_w, i32_w]
  rfl
 refine pure_ (i := 3) (N := some 124) (v := ?_) (a' := ?_) #[true, true, true, true, false, false, false, false, false, false, false, false] rfl rfl (by kernel_rfl) (fun _ _ _ h => h) (Or.inl ⟨by rfl, ?_⟩) ?_ ?_
 rotate_left
 ·intro w'
  go_simp
  with_reducible rfl
 rotate_left
 ·simp only [Act.put, List.setIfInBounds_toArray, List.set_cons_zero, List.set_cons_succ, i64_w, i32_w]
  rfl
 refine pure_ (i := 4) (N := some 128) (v := ?_) (a' := ?_) #[true, true, true, true, true, false, false, false, false, false, false, false] rfl rfl (by kernel_rfl) (fun _ _ _ h => h) (Or.inl ⟨by rfl, ?_⟩) ?_ ?_
 rotate_left
 ·intro w'
  go_simp
  with_reducible rfl
 rotate_left
 ·simp only [Act.put, List.setIfInBounds_toArray, List.set_cons_zero, List.set_cons_succ, i64_w, i32_w]
  rfl
 refine pure_ (i := 5) (N := some 129) (v := ?_) (a' := ?_) #[true, true, true, true, true, true, false, false, false, false, false, false] rfl rfl (by kernel_rfl) (fun _ _ _ h => h) (Or.inl ⟨by rfl, ?_⟩) ?_ ?_
 rotate_left
 ·intro w'
  go_simp
  with_reducible rfl
 rotate_left
 ·simp only [Act.put, List.setIfInBounds_toArray, List.set_cons_zero, List.set_cons_succ, i64_w, i32_w]
  rfl
 refine pure_ (i := 6) (N := some 130) (v := ?_) (a' := ?_) #[true, true, true, true, true, true, true, false, false, false, false, false] rfl rfl (by kernel_rfl) (fun _ _ _ h => h) (Or.inl ⟨by rfl, ?_⟩) ?_ ?_
 rotate_left
 ·intro w'
  go_simp
  with_reducible rfl
 rotate_left
 ·simp only [Act.put, List.setIfInBounds_toArray, List.set_cons_zero, List.set_cons_succ, i64_w, i32_w]
  rfl
 refine pure_ (i := 7) (N := some 131) (v := ?_) (a' := ?_) #[true, true, true, true, true, true, true, true, false, false, false, false] rfl rfl (by kernel_rfl) (fun _ _ _ h => h) (Or.inl ⟨by rfl, ?_⟩) ?_ ?_
 rotate_left
 ·intro w'
  go_simp
  with_reducible rfl
 rotate_left
 ·simp only [Act.put, List.setIfInBounds_toArray, List.set_cons_zero, List.set_cons_succ, i64_w, i32_w]
  rfl
 refine pure_ (i := 8) (N := some 36) (v := ?_) (a' := ?_) #[true, true, true, true, true, true, true, true, true, false, false, false] rfl rfl (by kernel_rfl) (fun _ _ _ h => h) (Or.inl ⟨by rfl, ?_⟩) ?_ ?_
 rotate_left
 ·intro w'
  go_simp
  with_reducible rfl
 rotate_left
 ·simp only [Act.put, List.setIfInBounds_toArray, List.set_cons_zero, List.set_cons_succ, i64_w, i32_w]
  rfl
 refine pure_ (i := 9) (N := some 37) (v := ?_) (a' := ?_) #[true, true, true, true, true, true, true, true, true, true, false, false] rfl rfl (by kernel_rfl) (fun _ _ _ h => h) (Or.inl ⟨by rfl, ?_⟩) ?_ ?_
 rotate_left
 ·intro w'
  go_simp
  with_reducible rfl
 rotate_left
 ·simp only [Act.put, List.setIfInBounds_toArray, List.set_cons_zero, List.set_cons_succ, i64_w, i32_w]
  rfl
 refine pure_ (i := 10) (N := some 38) (v := ?_) (a' := ?_) #[true, true, true, true, true, true, true, true, true, true, true, false] rfl rfl (by kernel_rfl) (fun _ _ _ h => h) (Or.inl ⟨by rfl, ?_⟩) ?_ ?_
 rotate_left
 ·intro w'
  go_simp
  with_reducible rfl
 rotate_left
 ·simp only [Act.put, List.setIfInBounds_toArray, List.set_cons_zero, List.set_cons_succ, i64_w, i32_w]
  rfl
 refine pure_ (i := 11) (N := some 39) (v := ?_) (a' := ?_) #[true, true, true, true, true, true, true, true, true, true, true, true] rfl rfl (by kernel_rfl) (fun _ _ _ h => h) (Or.inl ⟨by rfl, ?_⟩) ?_ ?_
 rotate_left
 ·intro w'
  go_simp
  with_reducible rfl
 rotate_left
 ·simp only [Act.put, List.setIfInBounds_toArray, List.set_cons_zero, List.set_cons_succ, i64_w, i32_w]
  rfl
 refine done_ (by kernel_rfl) ?_
 have HZ13 := HZc
 clear HZd HZ12 HZa HZb HRa HRb HZc
 go_upto_region 23 with (first
  | ((with_reducible refine gate_dst (N := 133) rfl ?_); refine Kd.R_make k101 (w0 := w) w.heap.size 101 rfl (N := 133) rfl 95 _ _ rfl (65 : Int) rfl rfl Try.underlying95 (.agg #[(.complex .f64 0 0), (.bool false)]) 24 info101 rfl (by decide) (by omega) z101 (ok := fun _ => True) (okp := fun _ => False) (k101_mkM _ _ _ z101) (fun _ hk => hk.elim) trivial (by omega) (by decide) HZ13.out.hB HZ13.out.hB.size ?_; intro v1 w20 ho hb hg hn; rw [HL5.out] at ho; obtain ⟨Qa, qa, rfl⟩ := Kd.R_slice ho; have HRa := Aside0.mk ho; have HZ14 := Aside0.mk (HZ13.out.grown hg hb); clear ho hb hg hn)
  | (go_at_call 61; (with_reducible refine (meter_Power.calls k Qa qa L5 i1 i2 1 _ (Kd.R_reads' HRa.out).2.2 (Kd.R_reads' HRa.out).2.1 HI.out).mono ?_); rintro e w21 ⟨rfl, hb⟩; have HZ15 := Aside0.mk (HZ14.out.below hb); clear hb HRa)
  | (go_at_call 61; (with_reducible refine (mn_Power_nil k 0 0 0 HJ.out _).mono ?_); rintro e w22 ⟨rfl, hb⟩; have HZ16 := Aside0.mk (HZ15.out.below hb); clear hb)
  | (go_at_call 59; (with_reducible refine (mn_Open_lit k 0 0 true l1 l2 6 HL.out w22).mono ?_); rintro e w24 ⟨rfl, hb⟩; have HZ18 := Aside0.mk (HZ16.out.below hb); clear hb)
  | (go_at_call 59; (with_reducible refine (mn_Open_lit k 4656510908468559872 0 false m1 m2 7 HM.out w24).mono ?_); rintro e w26 ⟨rfl, hb⟩; have HZ20 := Aside0.mk (HZ18.out.below hb); clear hb))
 clear HZ13 HZ14 HZ15 HZ16 HZ18
 have hx0 : w26.cell? ⟨g8, 0, none⟩ = some (.int .i64 0) := (blk_cell HZ20.out.b8 0).trans rfl
 have hx1 : w26.cell? ⟨g8, 1, none⟩ = some (.int .i64 0) := (blk_cell HZ20.out.b8 1).trans rfl
 have hx2 : w26.cell? ⟨g8, 2, none⟩ = some (.int .i64 0) := (blk_cell HZ20.out.b8 2).trans rfl
 have hx3 : w26.cell? ⟨g8, 3, none⟩ = some (.int .i64 0) := (blk_cell HZ20.out.b8 3).trans rfl
 go_wp2_with (first
  | (go_at_call 38; (with_reducible refine (foghornlaw30_awake.calls k true _ HN.out).mono ?_); rintro e w27 ⟨rfl, hb⟩; have HZ21 := Aside0.mk (below_step HZ20.out.hB hb); clear hb))
 go_ret
 exact ⟨(by first | rfl | (simp [go_sem]; done)), HZ21.out⟩
theorem foghornlaw30_MeterNone.calls (k : Nat) (r : Bool) (w : World) (h : foghornlaw30_MeterNone.f k = some r) (hq_ : r = true) :
  Calls Try.prog 16 #[] w fun e w' => e = .returned (.bool r) ∧ Below w.heap.size w w' := by
 subst hq_
 unfold foghornlaw30_MeterNone.f at h
 obtain ⟨⟨a1, a2, a3⟩, ha, h⟩ := Option.bind_eq_some_iff.1 h
 obtain ⟨⟨b1, b2, b3⟩, hb, h⟩ := Option.bind_eq_some_iff.1 h
 obtain ⟨⟨c1, c2, c3⟩, hc, h⟩ := Option.bind_eq_some_iff.1 h
 obtain ⟨⟨d1, d2, d3⟩, hd, h⟩ := Option.bind_eq_some_iff.1 h
 obtain ⟨⟨e1, e2⟩, he, h⟩ := Option.bind_eq_some_iff.1 h
 obtain ⟨f1, hf, h⟩ := Option.bind_eq_some_iff.1 h
 obtain ⟨⟨g1, g2, g3, g4⟩, hg, h⟩ := Option.bind_eq_some_iff.1 h
 obtain ⟨⟨h1, h2, h3, h4⟩, hh, h⟩ := Option.bind_eq_some_iff.1 h
 obtain ⟨⟨i1, i2, i3⟩, hi, h⟩ := Option.bind_eq_some_iff.1 h
 obtain ⟨j1, hj, h⟩ := Option.bind_eq_some_iff.1 h
 obtain ⟨⟨l1, l2, l3⟩, hl, h⟩ := Option.bind_eq_some_iff.1 h
 obtain ⟨⟨m1, m2, m3⟩, hm, h⟩ := Option.bind_eq_some_iff.1 h
 obtain ⟨n1, hn, h⟩ := Option.bind_eq_some_iff.1 h
 split at h
 ·rename_i hk
  obtain ⟨⟨x1, x2, x3, x4⟩, ⟨x5, x6⟩, ⟨x7, x8⟩, ⟨x9, x10⟩, ⟨x11, x12⟩, x13⟩ := hk
  dsimp only at x1 x2 x3 x4 x5 x7 x8 x9 x11 x12
  subst x1 x2 x3 x4 x5 x6 x7 x8 x9 x10 x11 x12 x13
  exact mn_go k _ _ _ _ _ _ _ rfl rfl rfl rfl rfl rfl rfl (by rw [List.length_replicate]; decide) (by rw [List.length_replicate, List.length_replicate]; decide) a1 a2 b1 b2 c1 c2 d1 d2 e1 g1 g2 g3 h1 h2 h3 i1 i2 l1 l2 m1 m2 ha hb hc hd he hf hg hh hi hj hl hm hn w
 ·cases h
theorem foghornlaw30_MeterNone.walk (P : foghornlaw30_MeterNone.Pure) (w : World) :
  Calls Try.prog 16 #[] w fun e w' => e = .returned (.bool true) ∧ Below w.heap.size w w' := by
 obtain ⟨k, h⟩ := P
 refine (foghornlaw30_MeterNone.calls k true w h rfl).mono ?_
 rintro e w' ⟨rfl, hd⟩
 exact ⟨rfl, hd⟩

end Go.Proofs.Ythfcafllcgjepaa.Q
