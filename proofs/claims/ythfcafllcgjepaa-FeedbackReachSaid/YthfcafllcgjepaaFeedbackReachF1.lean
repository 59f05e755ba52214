import Derived.Test.YthfcafllcgjepaaFeedbackReachK0
import Derived.Test.YthfcafllcgjepaaFeedbackReachF0
-- Printed by myprint.py (ours) over the kit's printer, out of the translation.
namespace Go.Proofs.Ythfcafllcgjepaa.Q
open Go.RowKit Go.Proofs.YthfcafllcgjepaaW.PrintWords Go.Proofs.YthfcafllcgjepaaW.PrintLast Go.Proofs.YthfcafllcgjepaaW.PrintMore
attribute [local go_sem] ArrW.ptrOf_slice unary_neg_float unary_neg_complex run_store_float run_store_complex max2_int min2_int max_two min_two max_three min_three max_four min_four   -- for this text's walks alone
set_option linter.unusedVariables false
set_option linter.unusedSimpArgs false
def grid_Check.l0 : Nat → List (S101) → Int → Int → Option (Int × Int)
  | 0, _, _, _ => none
  | k + 1, x9, x10, x11 => if x11 < x10 then (if 0 ≤ x11 then (if x11 < (x9.length : Int) then ((grid_may.f ((rd_T101 x9 x11).f0) ((rd_T101 x9 x11).f1)).bind fun t664 => (if t664 = true then (grid_Check.l0 k x9 x10 (wrap64 (x11 + 1))) else (some (x11, 7)))) else (none)) else (none)) else (some (0, 0))
def grid_Check.f (k : Nat) (l0 : List (S101)) : Option (Int × Int) := if (l0.length : Int) > 65536 then (some (0, 1)) else (grid_Check.l0 k l0 (l0.length : Int) 0)
theorem grid_Check.mono_l : ∀ k, (∀ y0 y1 y2, LeO (grid_Check.l0 k y0 y1 y2) (grid_Check.l0 (k + 1) y0 y1 y2))
  | 0 => fun _ _ _ r h => by simp [grid_Check.l0] at h
  | k + 1 => by
    have ih0 := grid_Check.mono_l k
    · intro y0 y1 y2
      unfold grid_Check.l0
      repeat' first
      | (with_reducible exact ih0 _ _ _)
      | (with_reducible exact LeO.refl _)
      | (with_reducible exact LeO.none _)
      | (with_reducible refine LeO.ite ?_ ?_)
      | (with_reducible refine LeO.bind ?_ (fun _ => ?_))
      | exact ih0 _ _ _
      | exact LeO.none _
      | refine LeO.ite ?_ ?_
      | refine LeO.bind ?_ (fun _ => ?_)
theorem grid_Check.mono : ∀ a0 k, LeO (grid_Check.f k a0) (grid_Check.f (k + 1) a0) := by
  intro a0 k
  have ih0 := grid_Check.mono_l k
  unfold grid_Check.f
  repeat' first
      | (with_reducible exact ih0 _ _ _)
      | (with_reducible exact LeO.refl _)
      | (with_reducible exact LeO.none _)
      | (with_reducible refine LeO.ite ?_ ?_)
      | (with_reducible refine LeO.bind ?_ (fun _ => ?_))
      | exact ih0 _ _ _
      | exact LeO.none _
      | refine LeO.ite ?_ ?_
      | refine LeO.bind ?_ (fun _ => ?_)
def foghornlaw05_awake.f (k : Nat)  : Option (Bool) := (slice_Decide.f k 16 (4611686018427387904, 4612248968380809216)).bind fun bt696 => ((slice_Decide.f k 32 (4617315517961601024, 4617315517961601024)).bind fun bt701 => ((slice_Gap.f 32 (4621256167635550208, 4621256167635550208) bt701.1).bind fun bt706 => (if bt696.2.2.2 = 0 then (if bt701.2.2.2 = 0 then (if bt706.2 = 0 then (if ((FloatKind.f64.format.order bt696.2.1.1 4607182418800017408 == some .eq) && (FloatKind.f64.format.order bt696.2.1.2 4613937818241073152 == some .eq)) = true then (if ((FloatKind.f64.format.order bt701.2.1.1 4613937818241073152 == some .eq) && (FloatKind.f64.format.order bt701.2.1.2 4617315517961601024 == some .eq)) = true then (some (FloatKind.f64.format.order bt706.1 4616189618054758400 == some .eq)) else (some false)) else (some false)) else (some false)) else (some false)) else (some false))))
theorem foghornlaw05_awake.mono : ∀ k, LeO (foghornlaw05_awake.f k ) (foghornlaw05_awake.f (k + 1) ) := by
  intro  k
  unfold foghornlaw05_awake.f
  repeat' first
      | (with_reducible exact slice_Decide.mono _ _ _)
      | (with_reducible exact LeO.refl _)
      | (with_reducible exact LeO.none _)
      | (with_reducible refine LeO.ite ?_ ?_)
      | (with_reducible refine LeO.bind ?_ (fun _ => ?_))
      | exact slice_Decide.mono _ _ _
      | exact LeO.none _
      | refine LeO.ite ?_ ?_
      | refine LeO.bind ?_ (fun _ => ?_)
def foghornlaw05_size.f (a0 : Int) : Option (Int) := (some (([4, 16, 32, 64, 128, 256] : List Int) : List Int)).bind fun y708 => (if 0 ≤ (Int.tmod (wrap64 ((Int.tmod a0 6) + 6)) 6) then (if (Int.tmod (wrap64 ((Int.tmod a0 6) + 6)) 6) < (y708.length : Int) then (some (rd y708 (Int.tmod (wrap64 ((Int.tmod a0 6) + 6)) 6))) else (none)) else (none))
def foghornlaw05_SliceNear.f (k : Nat) (a0 : Int) (a1 : Int) (a2 : Int) (a3 : Int) : Option (Bool) := (foghornlaw05_awake.f k).bind fun t712 => (if t712 = true then ((foghornlaw05_size.f a0).bind fun t713 => (if t713 = 0 then (none) else ((foghornref04_At.f k t713 (Int.tmod (wrap64 ((Int.tmod a1 t713) + t713)) t713)).bind fun bt714 => (if bt714.2 = 0 then ((floatBits .quo .f64 (floatOfInt .f64 (Int.tmod (wrap64 (a2)) 16384)) 4670232813583204352).bind fun t716 => ((floatBits .quo .f64 (floatOfInt .f64 (Int.tmod (wrap64 (a3)) 16384)) 4670232813583204352).bind fun t717 => ((floatBits .add .f64 bt714.1.1 t716).bind fun t718 => ((floatBits .add .f64 bt714.1.2 t717).bind fun t719 => ((slice_Decide.f k t713 (t718, t719)).bind fun bt720 => ((slice_Decide.f k t713 bt720.2.1).bind fun bt725 => (if bt720.2.2.2 = 0 then (if bt725.2.2.2 = 0 then (if bt720.1 = (Int.tmod (wrap64 ((Int.tmod a1 t713) + t713)) t713) then (if ((FloatKind.f64.format.order bt720.2.1.1 bt714.1.1 == some .eq) && (FloatKind.f64.format.order bt720.2.1.2 bt714.1.2 == some .eq)) = true then (if bt720.2.2.1 = true then (some false) else (some (bt725.1 == bt720.1 && (((FloatKind.f64.format.order bt725.2.1.1 bt720.2.1.1 == some .eq) && (FloatKind.f64.format.order bt725.2.1.2 bt720.2.1.2 == some .eq)) && (bt725.2.2.1 == bt720.2.2.1))))) else (some false)) else (some false)) else (some false)) else (some false)))))))) else (some false))))) else (some false))
def foghornlaw05_SliceNear.Pure : Prop := ∀ (a0 : Int) (a1 : Int) (a2 : Int) (a3 : Int), (Lit.int .i64 a0).wf = true → (Lit.int .i64 a1).wf = true → (Lit.int .i16 a2).wf = true → (Lit.int .i16 a3).wf = true → ∃ k, foghornlaw05_SliceNear.f k a0 a1 a2 a3 = some true
structure Lp where
  size : Int
  taps : List (Nat × Nat)
  past : List (Nat × Nat)
  n : Int
  pos : Int
  by_ : Nat
  q : Int
  some_ : Bool
  broken : Bool
  bare : Nat × Nat
def lp_ix (s : Lp) (j : Nat) : Nat := (Int.tmod (s.pos - j + 64) 64).toNat
def lp_acc (s : Lp) : Nat → Nat → Nat → Nat → Option (Nat × Nat)
  | 0, _, re, im => some (re, im)
  | d + 1, j, re, im => (feedback_times.f (s.taps.getD j (0, 0)) (s.past.getD (lp_ix s j) (0, 0))).bind fun t => (floatBits .sub .f64 re t.1).bind fun a => (floatBits .sub .f64 im t.2).bind fun b => lp_acc s d (j + 1) a b
def lp_step (k : Nat) (s : Lp) (x : S101) : Option (S83 × Int × Lp) :=
  (grid_Check.f k [x]).bind fun c => if c.2 = 0 then (if s.broken = true then some (⟨0, (0, 0), true⟩, 0, { s with broken := true }) else if x.f1 = true then some (⟨0, (0, 0), true⟩, 0, { s with broken := true }) else
    (lp_acc s (s.n.toNat - 1) 1 x.f0.1 x.f0.2).bind fun y => (feedback_turned.f k y s.q).bind fun z => (floatBits .quo .f64 z.1 s.by_).bind fun b1 => (floatBits .quo .f64 z.2 s.by_).bind fun b2 => (slice_Decide.f k s.size (b1, b2)).bind fun d =>
      some (⟨d.1, d.2.1, d.2.2.1⟩, d.2.2.2, { s with some_ := true, bare := (b1, b2), past := s.past.set s.pos.toNat d.2.1, pos := Int.tmod (s.pos + 1) 64 })) else some (⟨0, (0, 0), false⟩, c.2, s)
theorem lp_step.mono (s : Lp) (x : S101) (k : Nat) : LeO (lp_step k s x) (lp_step (k + 1) s x) :=
  LeO.bind (grid_Check.mono _ k) fun _ => LeO.ite (LeO.ite (LeO.refl _) (LeO.ite (LeO.refl _) (LeO.bind (LeO.refl _) fun _ => LeO.bind (feedback_turned.mono _ _ k) fun _ => LeO.bind (LeO.refl _) fun _ => LeO.bind (LeO.refl _) fun _ => LeO.bind (slice_Decide.mono _ _ k) fun _ => LeO.refl _))) (LeO.refl _)
def lp_zero (n : Int) (len : Int) : Lp := { size := n, taps := List.replicate 64 (0, 0), past := List.replicate 64 (0, 0), n := len, pos := 0, by_ := 0, q := 0, some_ := false, broken := false, bare := (0, 0) }
def lp_z (d : S83) (s : Lp) : Option (Nat × Nat) := if d.f2 = true then some (0, 0) else (floatBits .sub .f64 s.bare.1 d.f1.1).bind fun a => (floatBits .sub .f64 s.bare.2 d.f1.2).bind fun b => some (a, b)
def lp_run (k : Nat) : List S101 → Lp → List S83 → List (Nat × Nat) → Option (List S83 × List (Nat × Nat))
  | [], _, out, far => some (out, far)
  | x :: r, s, out, far => (lp_step k s x).bind fun t => (lp_z t.1 t.2.2).bind fun z => lp_run k r t.2.2 (out ++ [t.1]) (far ++ [z])
theorem lp_run.mono (k : Nat) : ∀ (l : List S101) (s : Lp) (o : List S83) (f : List (Nat × Nat)), LeO (lp_run k l s o f) (lp_run (k + 1) l s o f)
  | [], _, _, _ => LeO.refl _
  | x :: r, s, _, _ => LeO.bind (lp_step.mono s x k) fun _ => LeO.bind (LeO.refl _) fun _ => lp_run.mono k r _ _ _
def lp_from : List (Nat × Nat) → Nat → List (Nat × Nat) → List (Nat × Nat)
  | xs, _, [] => xs
  | xs, o, v :: r => lp_from (xs.set o v) (o + 1) r
def fb_new (k : Nat) (n : Int) (h : List (Nat × Nat)) : Option (Int × Lp) :=
  (points_Edge.f n).bind fun e => if e.2 = 0 then (feedback_Check.f k h).bind fun c => if c = 0 then (if 1 ≤ h.length ∧ h.length ≤ 64 then (feedback_first.f k (h.getD 0 (0, 0))).bind fun b => some (0, { lp_zero n h.length with taps := lp_from (List.replicate 64 (0, 0)) 0 h, by_ := b.1, q := b.2.1 }) else none) else some (c, lp_zero 0 0) else some (1, lp_zero 0 0)
theorem fb_new.mono (n : Int) (h : List (Nat × Nat)) (k : Nat) : LeO (fb_new k n h) (fb_new (k + 1) n h) :=
  LeO.bind (LeO.refl _) fun _ => LeO.ite (LeO.bind (feedback_Check.mono _ k) fun _ => LeO.ite (LeO.ite (LeO.bind (feedback_first.mono _ k) fun _ => LeO.refl _) (LeO.refl _)) (LeO.refl _)) (LeO.refl _)
def feedback_run.f (k : Nat) (a0 : Int) (l1 : List (Nat × Nat)) (l2 : List S101) : Option (List S83 × List (Nat × Nat) × Int) :=
  (fb_new k a0 l1).bind fun n => if n.1 = 0 then (grid_Check.f k l2).bind fun c => if c.2 = 0 then (if l2.length ≤ 65536 then (lp_run k l2 n.2 [] []).bind fun r => some (r.1, r.2, 0) else none) else some ([], [], c.2) else some ([], [], n.1)
theorem feedback_run.mono : ∀ a0 a1 a2 k, LeO (feedback_run.f k a0 a1 a2) (feedback_run.f (k + 1) a0 a1 a2) := fun a0 a1 a2 k =>
  LeO.bind (fb_new.mono a0 a1 k) fun _ => LeO.ite (LeO.bind (grid_Check.mono _ k) fun _ => LeO.ite (LeO.ite (LeO.bind (lp_run.mono k _ _ _ _) fun _ => LeO.refl _) (LeO.refl _)) (LeO.refl _)) (LeO.refl _)
def feedback_Run.f (k : Nat) (a0 : Int) (l1 : List (Nat × Nat)) (l2 : List (S101)) : Option ((List (S83)) × Int) := (feedback_run.f k a0 l1 l2).bind fun bt1013 => (some (bt1013.1, bt1013.2.2))
theorem feedback_Run.mono : ∀ a0 a1 a2 k, LeO (feedback_Run.f k a0 a1 a2) (feedback_Run.f (k + 1) a0 a1 a2) := by
  intro a0 a1 a2 k
  unfold feedback_Run.f
  repeat' first
      | (with_reducible exact feedback_run.mono _ _ _ _)
      | (with_reducible exact LeO.refl _)
      | (with_reducible exact LeO.none _)
      | (with_reducible refine LeO.ite ?_ ?_)
      | (with_reducible refine LeO.bind ?_ (fun _ => ?_))
      | exact feedback_run.mono _ _ _ _
      | exact LeO.none _
      | refine LeO.ite ?_ ?_
      | refine LeO.bind ?_ (fun _ => ?_)
def foghornlaw11_awake.f (k : Nat)  : Option (Bool) := (feedback_Run.f k 4 (([(4607182418800017408, 0), (4607182418800017408, 0)] : List (Nat × Nat))) (([(⟨(4607182418800017408, 4607182418800017408), false⟩ : S101), (⟨(4611686018427387904, 0), false⟩ : S101), (⟨(0, 13835058055282163712), false⟩ : S101)] : List (S101)))).bind fun bt1026 => (if bt1026.2 = 0 then (if (bt1026.1.length : Int) = 3 then (if 0 < (bt1026.1.length : Int) then (if ((FloatKind.f64.format.order (((rd_T83 bt1026.1 0).f1).1) 4607182418800017408 == some .eq) && (FloatKind.f64.format.order (((rd_T83 bt1026.1 0).f1).2) 4607182418800017408 == some .eq)) = true then (if 1 < (bt1026.1.length : Int) then (if ((FloatKind.f64.format.order (((rd_T83 bt1026.1 1).f1).1) 4607182418800017408 == some .eq) && (FloatKind.f64.format.order (((rd_T83 bt1026.1 1).f1).2) 13830554455654793216 == some .eq)) = true then (if 2 < (bt1026.1.length : Int) then (if ((FloatKind.f64.format.order (((rd_T83 bt1026.1 2).f1).1) 13830554455654793216 == some .eq) && (FloatKind.f64.format.order (((rd_T83 bt1026.1 2).f1).2) 13830554455654793216 == some .eq)) = true then (some (!((rd_T83 bt1026.1 2).f2))) else (some false)) else (none)) else (some false)) else (none)) else (some false)) else (none)) else (some false)) else (some false))
theorem foghornlaw11_awake.mono : ∀ k, LeO (foghornlaw11_awake.f k ) (foghornlaw11_awake.f (k + 1) ) := by
  intro  k
  unfold foghornlaw11_awake.f
  repeat' first
      | (with_reducible exact feedback_Run.mono _ _ _ _)
      | (with_reducible exact LeO.refl _)
      | (with_reducible exact LeO.none _)
      | (with_reducible refine LeO.ite ?_ ?_)
      | (with_reducible refine LeO.bind ?_ (fun _ => ?_))
      | exact feedback_Run.mono _ _ _ _
      | exact LeO.none _
      | refine LeO.ite ?_ ?_
      | refine LeO.bind ?_ (fun _ => ?_)
def foghornlaw11_size.f (a0 : Int) : Option (Int) := (some (([4, 16, 32, 64, 128, 256] : List Int) : List Int)).bind fun y1034 => (if 0 ≤ (Int.tmod (wrap64 ((Int.tmod a0 6) + 6)) 6) then (if (Int.tmod (wrap64 ((Int.tmod a0 6) + 6)) 6) < (y1034.length : Int) then (some (rd y1034 (Int.tmod (wrap64 ((Int.tmod a0 6) + 6)) 6))) else (none)) else (none))
mutual
def foghornlaw11_may.l0 : Nat → List (S174) → List (Nat × Nat) → Int → Option (List (Nat × Nat))
  | 0, _, _, _ => none
  | k + 1, x2, x8, x9 => if x9 < (x2.length : Int) then (foghornlaw11_may.j1 k x2 x8 x9 (decide ((x8.length : Int) < 64))) else (foghornlaw11_may.j1 k x2 x8 x9 false)
def foghornlaw11_may.j1 : Nat → List (S174) → List (Nat × Nat) → Int → Bool → Option (List (Nat × Nat))
  | 0, _, _, _, _ => none
  | k + 1, x2, x8, x9, x33 => if x33 = true then (if 0 ≤ x9 then (if x9 < (x2.length : Int) then ((floatBits .quo .f64 (floatOfInt .f64 (Int.tmod ((rd_T174 x2 x9).f0) 65)) 4634204016564240384).bind fun t1047 => ((floatBits .quo .f64 (floatOfInt .f64 (Int.tmod ((rd_T174 x2 x9).f1) 65)) 4634204016564240384).bind fun t1049 => (if x8.length < 8796093022208 then ((some (x8 ++ [(t1047, t1049)] : List (Nat × Nat))).bind fun y1050 => ((foghornref11_Check.f k y1050).bind fun t1053 => (if t1053 = 0 then (foghornlaw11_may.l0 k x2 y1050 (wrap64 (x9 + 1))) else (if 0 ≤ (wrap64 ((y1050.length : Int) - 1)) then (if (wrap64 ((y1050.length : Int) - 1)) ≤ (y1050.length : Int) then (some (y1050.take ((wrap64 ((y1050.length : Int) - 1)) : Int).toNat)) else (none)) else (none))))) else (none)))) else (none)) else (none)) else (some x8)
end
def foghornlaw11_may.f (k : Nat) (a0 : Int) (a1 : Int) (l2 : List (S174)) : Option (List (Nat × Nat)) := (some (([4607182418800017408, 4602678819172646912, 4598175219545276416] : List Nat) : List Nat)).bind fun y1038 => (if 0 ≤ (Int.tmod (wrap64 ((Int.tmod a0 3) + 3)) 3) then (if (Int.tmod (wrap64 ((Int.tmod a0 3) + 3)) 3) < (y1038.length : Int) then ((foghornref11_Turn.f k (rdOf 0 y1038 (Int.tmod (wrap64 ((Int.tmod a0 3) + 3)) 3), 0) (Int.tmod (wrap64 ((Int.tmod a1 4) + 4)) 4)).bind fun t1042 => (foghornlaw11_may.l0 k l2 (([t1042] : List (Nat × Nat))) 0)) else (none)) else (none))
def foghornlaw11_may.T6 : Bool × List (List Nat × List Nat) := (true, [([], []), ([], []), ([], []), ([1, 2], [1, 2]), ([3], [3]), ([4], [4]), ([5], [5]), ([6], [6]), ([7], [7]), ([], []), ([], []), ([9, 10], [9, 10]), ([11], [11]), ([12], [12]), ([13], [13]), ([14], [14]), ([15], [15]), ([8, 16], [8, 16]), ([17], [17]), ([0, 18], [0, 18]), ([19, 19, 0, 1, 2, 3, 4, 5, 6, 7, 8, 9, 10, 11, 12, 13, 14, 15, 16, 17, 18, 19], [0, 19])])
def foghornlaw11_may.B6 : List Nat := [0, 0, 0, 6, 14, 30, 62, 126, 254, 0, 0, 1536, 3584, 7680, 15872, 32256, 65024, 131070, 262142, 524287, 1048575]
theorem foghornlaw11_may.tab6 : rtab .any (opsOf Try.f90 6) = foghornlaw11_may.T6 := by kernel_rfl
theorem foghornlaw11_may.bits6 : waitsOk foghornlaw11_may.T6.2 foghornlaw11_may.B6 = true := by kernel_rfl
def feedback_Residue.f (k : Nat) (a0 : Int) (l1 : List (Nat × Nat)) (l2 : List (S101)) : Option (List (Nat × Nat) × Int) := (feedback_run.f k a0 l1 l2).bind fun bt1127 => (some (bt1127.2.1, bt1127.2.2))
def foghornlaw11_answer.l0 : Nat → List (Nat × Nat) → List (Nat × Nat) → Int → Nat → Nat → Int → Option ((Nat × Nat))
  | 0, _, _, _, _, _, _ => none
  | k + 1, x0, x1, x2, x7, x8, x9 => if x9 < (x0.length : Int) then (if x9 ≤ x2 then (if 0 ≤ (wrap64 (x2 - x9)) then (if (wrap64 (x2 - x9)) < (x1.length : Int) then (if 0 ≤ x9 then ((floatBits .mul .f64 ((rdOf (0, 0) x0 x9).1) ((rdOf (0, 0) x1 (wrap64 (x2 - x9))).1)).bind fun t1225 => ((floatBits .mul .f64 ((rdOf (0, 0) x0 x9).2) ((rdOf (0, 0) x1 (wrap64 (x2 - x9))).2)).bind fun t1227 => ((floatBits .sub .f64 t1225 t1227).bind fun t1228 => ((floatBits .add .f64 x7 t1228).bind fun t1229 => ((floatBits .mul .f64 ((rdOf (0, 0) x0 x9).1) ((rdOf (0, 0) x1 (wrap64 (x2 - x9))).2)).bind fun t1231 => ((floatBits .mul .f64 ((rdOf (0, 0) x0 x9).2) ((rdOf (0, 0) x1 (wrap64 (x2 - x9))).1)).bind fun t1233 => ((floatBits .add .f64 t1231 t1233).bind fun t1234 => ((floatBits .add .f64 x8 t1234).bind fun t1235 => (foghornlaw11_answer.l0 k x0 x1 x2 t1229 t1235 (wrap64 (x9 + 1))))))))))) else (none)) else (none)) else (none)) else (some (x7, x8))) else (some (x7, x8))
def foghornlaw11_answer.f (k : Nat) (l0 : List (Nat × Nat)) (l1 : List (Nat × Nat)) (a2 : Int) : Option ((Nat × Nat)) := foghornlaw11_answer.l0 k l0 l1 a2 0 0 0
mutual
def foghornlaw11_FeedbackReach.j0 : Nat → List Int → List (S171) → Int → List (Nat × Nat) → List (Nat × Nat) → Option (Bool)
  | 0, _, _, _, _, _ => none
  | k + 1, x1, x5, x13, x14, x15 => foghornlaw11_FeedbackReach.l0 k x1 x5 x13 x14 x15 ([] : List (Nat × Nat)) 0
def foghornlaw11_FeedbackReach.l0 : Nat → List Int → List (S171) → Int → List (Nat × Nat) → List (Nat × Nat) → List (Nat × Nat) → Int → Option (Bool)
  | 0, _, _, _, _, _, _, _ => none
  | k + 1, x1, x5, x13, x14, x15, x17, x18 => if x18 < (x1.length : Int) then (if 0 ≤ x18 then (if x13 = 0 then (none) else (if 0 ≤ (Int.tmod (wrap64 (rd x1 x18)) x13) then (if (Int.tmod (wrap64 (rd x1 x18)) x13) < (x15.length : Int) then (if x17.length < 8796093022208 then (foghornlaw11_FeedbackReach.l0 k x1 x5 x13 x14 x15 (x17 ++ [rdOf (0, 0) x15 (Int.tmod (wrap64 (rd x1 x18)) x13)]) (wrap64 (x18 + 1))) else (none)) else (none)) else (none))) else (none)) else (if 0 < (x14.length : Int) then ((foghornref11_First.f k (rdOf (0, 0) x14 0)).bind fun bt1252 => ((floatBits .mul .f64 bt1252.1 4661225614328463360).bind fun t1254 => ((floatToIntVal .f64 t1254 .i32).bind fun t1255 => ((feedback_Echo.f k x14 x17).bind fun bt1256 => (if bt1256.2 = 0 then (foghornlaw11_FeedbackReach.j2 k x1 x5 x13 x14 x17 bt1252.1 bt1252.2 t1255 bt1256.1 ((bt1256.1.length : Int) != (x17.length : Int))) else (foghornlaw11_FeedbackReach.j2 k x1 x5 x13 x14 x17 bt1252.1 bt1252.2 t1255 bt1256.1 true)))))) else (none))
def foghornlaw11_FeedbackReach.j2 : Nat → List Int → List (S171) → Int → List (Nat × Nat) → List (Nat × Nat) → Nat → Int → Int → List (Nat × Nat) → Bool → Option (Bool)
  | 0, _, _, _, _, _, _, _, _, _, _ => none
  | k + 1, x1, x5, x13, x14, x17, x19, x20, x21, x22, x96 => if x96 = true then (some false) else (foghornlaw11_FeedbackReach.l1 k x1 x5 x13 x14 x17 x19 x20 x21 x22 ([] : List (S101)) ([] : List (Nat × Nat)) 0)
def foghornlaw11_FeedbackReach.l1 : Nat → List Int → List (S171) → Int → List (Nat × Nat) → List (Nat × Nat) → Nat → Int → Int → List (Nat × Nat) → List (S101) → List (Nat × Nat) → Int → Option (Bool)
  | 0, _, _, _, _, _, _, _, _, _, _, _, _ => none
  | k + 1, x1, x5, x13, x14, x17, x19, x20, x21, x22, x24, x25, x26 => if x26 < (x17.length : Int) then ((foghornlaw11_answer.f k x14 x17 x26).bind fun t1260 => (if 0 ≤ x26 then (if x26 < (x22.length : Int) then (if (!((FloatKind.f64.format.order ((rdOf (0, 0) x22 x26).1) t1260.1 == some .eq) && (FloatKind.f64.format.order ((rdOf (0, 0) x22 x26).2) t1260.2 == some .eq))) = true then (some false) else (if (x5.length : Int) > 0 then (if (x5.length : Int) = 0 then (none) else (if 0 ≤ (Int.tmod x26 (x5.length : Int)) then (if (Int.tmod x26 (x5.length : Int)) < (x5.length : Int) then (if x21 = 0 then (none) else ((floatBits .quo .f64 (floatOfInt .f64 (Int.tmod ((rd_T171 x5 (Int.tmod x26 (x5.length : Int))).f0) x21)) 4661225614328463360).bind fun t1264 => ((floatBits .quo .f64 (floatOfInt .f64 (Int.tmod ((rd_T171 x5 (Int.tmod x26 (x5.length : Int))).f1) x21)) 4661225614328463360).bind fun t1265 => ((floatBits .add .f64 t1260.1 t1264).bind fun t1266 => ((floatBits .add .f64 t1260.2 t1265).bind fun t1267 => (if x24.length < 5864062014805 then ((foghornref11_Turn.f k (t1264, t1265) (Int.tmod (wrap64 (4 - x20)) 4)).bind fun t1271 => ((floatBits .quo .f64 t1271.1 x19).bind fun t1272 => ((floatBits .quo .f64 t1271.2 x19).bind fun t1273 => (if x25.length < 8796093022208 then (foghornlaw11_FeedbackReach.l1 k x1 x5 x13 x14 x17 x19 x20 x21 x22 (x24 ++ [(⟨(t1266, t1267), false⟩ : S101)]) (x25 ++ [(t1272, t1273)]) (wrap64 (x26 + 1))) else (none))))) else (none))))))) else (none)) else (none))) else ((floatBits .add .f64 t1260.1 0).bind fun t1277 => ((floatBits .add .f64 t1260.2 0).bind fun t1278 => (if x24.length < 5864062014805 then ((foghornref11_Turn.f k (0, 0) (Int.tmod (wrap64 (4 - x20)) 4)).bind fun t1282 => ((floatBits .quo .f64 t1282.1 x19).bind fun t1283 => ((floatBits .quo .f64 t1282.2 x19).bind fun t1284 => (if x25.length < 8796093022208 then (foghornlaw11_FeedbackReach.l1 k x1 x5 x13 x14 x17 x19 x20 x21 x22 (x24 ++ [(⟨(t1277, t1278), false⟩ : S101)]) (x25 ++ [(t1283, t1284)]) (wrap64 (x26 + 1))) else (none))))) else (none)))))) else (none)) else (none))) else ((feedback_Run.f k x13 x14 x24).bind fun bt1288 => ((feedback_Residue.f k x13 x14 x24).bind fun bt1292 => (if bt1288.2 = 0 then (if bt1292.2 = 0 then (if (bt1288.1.length : Int) = (x17.length : Int) then ((foghornref11_Same.f k bt1292.1 x25).bind fun t1296 => (foghornlaw11_FeedbackReach.j4 k x1 x13 x17 bt1288.1 (!t1296))) else (foghornlaw11_FeedbackReach.j4 k x1 x13 x17 bt1288.1 true)) else (foghornlaw11_FeedbackReach.j4 k x1 x13 x17 bt1288.1 true)) else (foghornlaw11_FeedbackReach.j4 k x1 x13 x17 bt1288.1 true))))
def foghornlaw11_FeedbackReach.j4 : Nat → List Int → Int → List (Nat × Nat) → List (S83) → Bool → Option (Bool)
  | 0, _, _, _, _, _ => none
  | k + 1, x1, x13, x17, x30, x200 => if x200 = true then (some false) else (foghornlaw11_FeedbackReach.l2 k x1 x13 x17 x30 0)
def foghornlaw11_FeedbackReach.l2 : Nat → List Int → Int → List (Nat × Nat) → List (S83) → Int → Option (Bool)
  | 0, _, _, _, _, _ => none
  | k + 1, x1, x13, x17, x30, x34 => if x34 < (x30.length : Int) then (if 0 ≤ x34 then (if (rd_T83 x30 x34).f2 = true then (some false) else (if x34 < (x17.length : Int) then (if (!((FloatKind.f64.format.order (((rd_T83 x30 x34).f1).1) ((rdOf (0, 0) x17 x34).1) == some .eq) && (FloatKind.f64.format.order (((rd_T83 x30 x34).f1).2) ((rdOf (0, 0) x17 x34).2) == some .eq))) = true then (some false) else (if x34 < (x1.length : Int) then (if x13 = 0 then (none) else (if ((rd_T83 x30 x34).f0) = (Int.tmod (wrap64 (rd x1 x34)) x13) then (foghornlaw11_FeedbackReach.l2 k x1 x13 x17 x30 (wrap64 (x34 + 1))) else (some false))) else (none))) else (none))) else (none)) else (some true)
end
def foghornlaw11_FeedbackReach.f (k : Nat) (a0 : Int) (l1 : List Int) (a2 : Int) (a3 : Int) (l4 : List (S174)) (l5 : List (S171)) : Option (Bool) := (foghornlaw11_awake.f k).bind fun t1236 => (if t1236 = true then ((foghornlaw11_size.f a0).bind fun t1237 => ((foghornlaw11_may.f k a2 a3 l4).bind fun t1238 => ((foghornref04_All.f k t1237).bind fun bt1241 => (if (l1.length : Int) > 300 then (if 300 ≤ (l1.length : Int) then (foghornlaw11_FeedbackReach.j0 k (l1.take 300) l5 t1237 t1238 bt1241.1) else (none)) else (foghornlaw11_FeedbackReach.j0 k l1 l5 t1237 t1238 bt1241.1))))) else (some false))
def foghornlaw11_FeedbackReach.Pure : Prop := ∀ (a0 : Int) (l1 : List Int) (a2 : Int) (a3 : Int) (l4 : List (S174)) (l5 : List (S171)), ((Lit.int .i64 a0).wf = true) → (l1.length * 1 ≤ 140737488351232 ∧ ∀ x ∈ l1, (fun y_ : Int => (Lit.int .u8 y_).wf = true) x) → ((Lit.int .i64 a2).wf = true) → ((Lit.int .i64 a3).wf = true) → (l4.length * 24 ≤ 140737488351232 ∧ ∀ x ∈ l4, (fun y_ : S174 => ((Lit.int .i64 y_.f0).wf = true) ∧ ((Lit.int .i64 y_.f1).wf = true) ∧ (True)) x) → (l5.length * 8 ≤ 140737488351232 ∧ ∀ x ∈ l5, (fun y_ : S171 => ((Lit.int .i32 y_.f0).wf = true) ∧ ((Lit.int .i32 y_.f1).wf = true)) x) → ∃ k, foghornlaw11_FeedbackReach.f k a0 l1 a2 a3 l4 l5 = some true
end Go.Proofs.Ythfcafllcgjepaa.Q
