-- Printed by myprint.py (ours) over the kit's printer, out of the translation.
import Derived.Test.YthfcafllcgjepaaSliceRowsK0
import Derived.Test.YthfcafllcgjepaaSliceRowsF0
namespace Go.Proofs.Ythfcafllcgjepaa.Q
open Go.RowKit Go.Proofs.YthfcafllcgjepaaW.PrintWords Go.Proofs.YthfcafllcgjepaaW.PrintLast Go.Proofs.YthfcafllcgjepaaW.PrintMore
attribute [local go_sem] ArrW.ptrOf_slice unary_neg_float unary_neg_complex run_store_float run_store_complex max2_int min2_int max_two min_two max_three min_three max_four min_four   -- for this text's walks alone
set_option linter.unusedVariables false
set_option linter.unusedSimpArgs false

/-! ### foghornlaw05_SliceRows: function 13 -/
mutual
def foghornlaw05_SliceRows.j0 : Nat → List (S80) → List (S83) → List (S83) → Bool → Option (Bool)
  | 0, _, _, _, _ => none
  | k + 1, x7, x9, x11, x74 => if x74 = true then (some false) else ((slice_Lost.f k x11).bind fun t867 => ((slice_Lost.f k x11).bind fun t870 => (foghornlaw05_SliceRows.l0 k x7 x9 x11 t867 t870 0 0)))
def foghornlaw05_SliceRows.l0 : Nat → List (S80) → List (S83) → List (S83) → List Int → List Int → Int → Int → Option (Bool)
  | 0, _, _, _, _, _, _, _ => none
  | k + 1, x7, x9, x11, x13, x14, x15, x16 => if x16 < (x7.length : Int) then (if 0 ≤ x16 then (if (rd_T80 x7 x16).f2 = true then (if x15 ≥ (x13.length : Int) then (some false) else (if 0 ≤ x15 then (if x15 < (x13.length : Int) then (if (rd x13 x15) = x16 then (if x15 ≥ (x14.length : Int) then (some false) else (if x15 < (x14.length : Int) then (if (rd x14 x15) = x16 then (foghornlaw05_SliceRows.l0 k x7 x9 x11 x13 x14 (wrap64 (x15 + 1)) (wrap64 (x16 + 1))) else (some false)) else (none))) else (some false)) else (none)) else (none))) else (foghornlaw05_SliceRows.l0 k x7 x9 x11 x13 x14 x15 (wrap64 (x16 + 1)))) else (none)) else (if (x13.length : Int) = x15 then (foghornlaw05_SliceRows.j2 k x7 x9 x11 x13 x14 ((x14.length : Int) != x15)) else (foghornlaw05_SliceRows.j2 k x7 x9 x11 x13 x14 true))
def foghornlaw05_SliceRows.j2 : Nat → List (S80) → List (S83) → List (S83) → List Int → List Int → Bool → Option (Bool)
  | 0, _, _, _, _, _, _ => none
  | k + 1, x7, x9, x11, x13, x14, x127 => if x127 = true then (some false) else (foghornlaw05_SliceRows.l1 k x7 x9 x11 x13 x14 0)
def foghornlaw05_SliceRows.l1 : Nat → List (S80) → List (S83) → List (S83) → List Int → List Int → Int → Option (Bool)
  | 0, _, _, _, _, _, _ => none
  | k + 1, x7, x9, x11, x13, x14, x17 => if x17 < (x13.length : Int) then (if 0 ≤ x17 then (if x17 < (x14.length : Int) then (if (rd x14 x17) < 0 then (some false) else (foghornlaw05_SliceRows.l1 k x7 x9 x11 (x13.set (x17 : Int).toNat (-1)) x14 (wrap64 (x17 + 1)))) else (none)) else (none)) else (foghornlaw05_SliceRows.l2 k x7 x9 x11 0)
def foghornlaw05_SliceRows.l2 : Nat → List (S80) → List (S83) → List (S83) → Int → Option (Bool)
  | 0, _, _, _, _ => none
  | k + 1, x7, x9, x11, x18 => if x18 < (x9.length : Int) then (if 0 ≤ x18 then (foghornlaw05_SliceRows.l2 k x7 (x9.set (x18 : Int).toNat (⟨(-1), (0, 0), false⟩ : S83)) x11 (wrap64 (x18 + 1))) else (none)) else (foghornlaw05_SliceRows.l3 k x7 x9 x11 0)
def foghornlaw05_SliceRows.l3 : Nat → List (S80) → List (S83) → List (S83) → Int → Option (Bool)
  | 0, _, _, _, _ => none
  | k + 1, x7, x9, x11, x19 => if x19 < 20 then (if x9.length < 4398046511104 then (foghornlaw05_SliceRows.l3 k x7 (x9 ++ [(⟨(-2), (0, 0), false⟩ : S83)]) x11 (wrap64 (x19 + 1))) else (none)) else ((foghornlaw05_rows.f k x11 x7).bind fun t882 => (if t882 = true then (some (decide ((x9.length : Int) ≥ 20))) else (some false)))
end
def foghornlaw05_SliceRows.f (k : Nat) (a0 : Int) (l1 : List (S206)) : Option (Bool) := (foghornlaw05_samples.f k l1).bind fun t841 => ((foghornref05_Row.f k a0 t841).bind fun bt844 => ((slice_Row.f k a0 t841).bind fun bt848 => ((slice_Row.f k a0 t841).bind fun bt852 => (if bt848.2 = bt844.2 then ((foghornlaw05_rows.f k bt848.1 bt844.1).bind fun t856 => (if t856 = true then ((foghornlaw05_rows.f k bt852.1 bt844.1).bind fun t857 => (if t857 = true then (if (wrap64 ((l1.length : Int) + 1)) = (t841.length : Int) + 1 then ((some (t841 ++ [(⟨(4651892959631900672, 0), false⟩ : S101)] : List (S101))).bind fun y858 => (if 0 ≤ (l1.length : Int) then (if (l1.length : Int) < (y858.length : Int) then (if (!((FloatKind.f64.format.order (((rd_T101 y858 (l1.length : Int)).f0).1) 4651892959631900672 == some .eq) && (FloatKind.f64.format.order (((rd_T101 y858 (l1.length : Int)).f0).2) 0 == some .eq))) = true then (foghornlaw05_SliceRows.j0 k bt844.1 bt848.1 bt852.1 true) else ((foghornlaw05_samples.f k l1).bind fun t863 => ((foghornref02_Same.f k t841 t863).bind fun t866 => (foghornlaw05_SliceRows.j0 k bt844.1 bt848.1 bt852.1 (!t866))))) else (none)) else (none))) else (none)) else (foghornlaw05_SliceRows.j0 k bt844.1 bt848.1 bt852.1 true))) else (foghornlaw05_SliceRows.j0 k bt844.1 bt848.1 bt852.1 true))) else (foghornlaw05_SliceRows.j0 k bt844.1 bt848.1 bt852.1 true)))))
theorem foghornlaw05_SliceRows.mono_l : ∀ k, (∀ y0 y1 y2 y3, LeO (foghornlaw05_SliceRows.j0 k y0 y1 y2 y3) (foghornlaw05_SliceRows.j0 (k + 1) y0 y1 y2 y3)) ∧ (∀ y0 y1 y2 y3 y4 y5 y6, LeO (foghornlaw05_SliceRows.l0 k y0 y1 y2 y3 y4 y5 y6) (foghornlaw05_SliceRows.l0 (k + 1) y0 y1 y2 y3 y4 y5 y6)) ∧ (∀ y0 y1 y2 y3 y4 y5, LeO (foghornlaw05_SliceRows.j2 k y0 y1 y2 y3 y4 y5) (foghornlaw05_SliceRows.j2 (k + 1) y0 y1 y2 y3 y4 y5)) ∧ (∀ y0 y1 y2 y3 y4 y5, LeO (foghornlaw05_SliceRows.l1 k y0 y1 y2 y3 y4 y5) (foghornlaw05_SliceRows.l1 (k + 1) y0 y1 y2 y3 y4 y5)) ∧ (∀ y0 y1 y2 y3, LeO (foghornlaw05_SliceRows.l2 k y0 y1 y2 y3) (foghornlaw05_SliceRows.l2 (k + 1) y0 y1 y2 y3)) ∧ (∀ y0 y1 y2 y3, LeO (foghornlaw05_SliceRows.l3 k y0 y1 y2 y3) (foghornlaw05_SliceRows.l3 (k + 1) y0 y1 y2 y3))
  | 0 => ⟨fun _ _ _ _ r h => by simp [foghornlaw05_SliceRows.j0] at h, fun _ _ _ _ _ _ _ r h => by simp [foghornlaw05_SliceRows.l0] at h, fun _ _ _ _ _ _ r h => by simp [foghornlaw05_SliceRows.j2] at h, fun _ _ _ _ _ _ r h => by simp [foghornlaw05_SliceRows.l1] at h, fun _ _ _ _ r h => by simp [foghornlaw05_SliceRows.l2] at h, fun _ _ _ _ r h => by simp [foghornlaw05_SliceRows.l3] at h⟩
  | k + 1 => by
    obtain ⟨ih0, ih1, ih2, ih3, ih4, ih5⟩ := foghornlaw05_SliceRows.mono_l k
    refine ⟨?_, ?_, ?_, ?_, ?_, ?_⟩
    · intro y0 y1 y2 y3
      unfold foghornlaw05_SliceRows.j0
      repeat' first
      | (with_reducible exact ih0 _ _ _ _)
      | (with_reducible exact ih1 _ _ _ _ _ _ _)
      | (with_reducible exact ih2 _ _ _ _ _ _)
      | (with_reducible exact ih3 _ _ _ _ _ _)
      | (with_reducible exact ih4 _ _ _ _)
      | (with_reducible exact ih5 _ _ _ _)
      | (with_reducible exact foghornlaw05_rows.mono _ _ _)
      | (with_reducible exact foghornlaw05_samples.mono _ _)
      | (with_reducible exact foghornref02_Same.mono _ _ _)
      | (with_reducible exact foghornref05_Row.mono _ _ _)
      | (with_reducible exact slice_Lost.mono _ _)
      | (with_reducible exact slice_Row.mono _ _ _)
      | (with_reducible exact LeO.refl _)
      | (with_reducible exact LeO.none _)
      | (with_reducible refine LeO.ite ?_ ?_)
      | (with_reducible refine LeO.bind ?_ (fun _ => ?_))
      | exact ih0 _ _ _ _
      | exact ih1 _ _ _ _ _ _ _
      | exact ih2 _ _ _ _ _ _
      | exact ih3 _ _ _ _ _ _
      | exact ih4 _ _ _ _
      | exact ih5 _ _ _ _
      | exact foghornlaw05_rows.mono _ _ _
      | exact foghornlaw05_samples.mono _ _
      | exact foghornref02_Same.mono _ _ _
      | exact foghornref05_Row.mono _ _ _
      | exact slice_Lost.mono _ _
      | exact slice_Row.mono _ _ _
      | exact LeO.none _
      | refine LeO.ite ?_ ?_
      | refine LeO.bind ?_ (fun _ => ?_)
    · intro y0 y1 y2 y3 y4 y5 y6
      unfold foghornlaw05_SliceRows.l0
      repeat' first
      | (with_reducible exact ih0 _ _ _ _)
      | (with_reducible exact ih1 _ _ _ _ _ _ _)
      | (with_reducible exact ih2 _ _ _ _ _ _)
      | (with_reducible exact ih3 _ _ _ _ _ _)
      | (with_reducible exact ih4 _ _ _ _)
      | (with_reducible exact ih5 _ _ _ _)
      | (with_reducible exact foghornlaw05_rows.mono _ _ _)
      | (with_reducible exact foghornlaw05_samples.mono _ _)
      | (with_reducible exact foghornref02_Same.mono _ _ _)
      | (with_reducible exact foghornref05_Row.mono _ _ _)
      | (with_reducible exact slice_Lost.mono _ _)
      | (with_reducible exact slice_Row.mono _ _ _)
      | (with_reducible exact LeO.refl _)
      | (with_reducible exact LeO.none _)
      | (with_reducible refine LeO.ite ?_ ?_)
      | (with_reducible refine LeO.bind ?_ (fun _ => ?_))
      | exact ih0 _ _ _ _
      | exact ih1 _ _ _ _ _ _ _
      | exact ih2 _ _ _ _ _ _
      | exact ih3 _ _ _ _ _ _
      | exact ih4 _ _ _ _
      | exact ih5 _ _ _ _
      | exact foghornlaw05_rows.mono _ _ _
      | exact foghornlaw05_samples.mono _ _
      | exact foghornref02_Same.mono _ _ _
      | exact foghornref05_Row.mono _ _ _
      | exact slice_Lost.mono _ _
      | exact slice_Row.mono _ _ _
      | exact LeO.none _
      | refine LeO.ite ?_ ?_
      | refine LeO.bind ?_ (fun _ => ?_)
    · intro y0 y1 y2 y3 y4 y5
      unfold foghornlaw05_SliceRows.j2
      repeat' first
      | (with_reducible exact ih0 _ _ _ _)
      | (with_reducible exact ih1 _ _ _ _ _ _ _)
      | (with_reducible exact ih2 _ _ _ _ _ _)
      | (with_reducible exact ih3 _ _ _ _ _ _)
      | (with_reducible exact ih4 _ _ _ _)
      | (with_reducible exact ih5 _ _ _ _)
      | (with_reducible exact foghornlaw05_rows.mono _ _ _)
      | (with_reducible exact foghornlaw05_samples.mono _ _)
      | (with_reducible exact foghornref02_Same.mono _ _ _)
      | (with_reducible exact foghornref05_Row.mono _ _ _)
      | (with_reducible exact slice_Lost.mono _ _)
      | (with_reducible exact slice_Row.mono _ _ _)
      | (with_reducible exact LeO.refl _)
      | (with_reducible exact LeO.none _)
      | (with_reducible refine LeO.ite ?_ ?_)
      | (with_reducible refine LeO.bind ?_ (fun _ => ?_))
      | exact ih0 _ _ _ _
      | exact ih1 _ _ _ _ _ _ _
      | exact ih2 _ _ _ _ _ _
      | exact ih3 _ _ _ _ _ _
      | exact ih4 _ _ _ _
      | exact ih5 _ _ _ _
      | exact foghornlaw05_rows.mono _ _ _
      | exact foghornlaw05_samples.mono _ _
      | exact foghornref02_Same.mono _ _ _
      | exact foghornref05_Row.mono _ _ _
      | exact slice_Lost.mono _ _
      | exact slice_Row.mono _ _ _
      | exact LeO.none _
      | refine LeO.ite ?_ ?_
      | refine LeO.bind ?_ (fun _ => ?_)
    · intro y0 y1 y2 y3 y4 y5
      unfold foghornlaw05_SliceRows.l1
      repeat' first
      | (with_reducible exact ih0 _ _ _ _)
      | (with_reducible exact ih1 _ _ _ _ _ _ _)
      | (with_reducible exact ih2 _ _ _ _ _ _)
      | (with_reducible exact ih3 _ _ _ _ _ _)
      | (with_reducible exact ih4 _ _ _ _)
      | (with_reducible exact ih5 _ _ _ _)
      | (with_reducible exact foghornlaw05_rows.mono _ _ _)
      | (with_reducible exact foghornlaw05_samples.mono _ _)
      | (with_reducible exact foghornref02_Same.mono _ _ _)
      | (with_reducible exact foghornref05_Row.mono _ _ _)
      | (with_reducible exact slice_Lost.mono _ _)
      | (with_reducible exact slice_Row.mono _ _ _)
      | (with_reducible exact LeO.refl _)
      | (with_reducible exact LeO.none _)
      | (with_reducible refine LeO.ite ?_ ?_)
      | (with_reducible refine LeO.bind ?_ (fun _ => ?_))
      | exact ih0 _ _ _ _
      | exact ih1 _ _ _ _ _ _ _
      | exact ih2 _ _ _ _ _ _
      | exact ih3 _ _ _ _ _ _
      | exact ih4 _ _ _ _
      | exact ih5 _ _ _ _
      | exact foghornlaw05_rows.mono _ _ _
      | exact foghornlaw05_samples.mono _ _
      | exact foghornref02_Same.mono _ _ _
      | exact foghornref05_Row.mono _ _ _
      | exact slice_Lost.mono _ _
      | exact slice_Row.mono _ _ _
      | exact LeO.none _
      | refine LeO.ite ?_ ?_
      | refine LeO.bind ?_ (fun _ => ?_)
    · intro y0 y1 y2 y3
      unfold foghornlaw05_SliceRows.l2
      repeat' first
      | (with_reducible exact ih0 _ _ _ _)
      | (with_reducible exact ih1 _ _ _ _ _ _ _)
      | (with_reducible exact ih2 _ _ _ _ _ _)
      | (with_reducible exact ih3 _ _ _ _ _ _)
      | (with_reducible exact ih4 _ _ _ _)
      | (with_reducible exact ih5 _ _ _ _)
      | (with_reducible exact foghornlaw05_rows.mono _ _ _)
      | (with_reducible exact foghornlaw05_samples.mono _ _)
      | (with_reducible exact foghornref02_Same.mono _ _ _)
      | (with_reducible exact foghornref05_Row.mono _ _ _)
      | (with_reducible exact slice_Lost.mono _ _)
      | (with_reducible exact slice_Row.mono _ _ _)
      | (with_reducible exact LeO.refl _)
      | (with_reducible exact LeO.none _)
      | (with_reducible refine LeO.ite ?_ ?_)
      | (with_reducible refine LeO.bind ?_ (fun _ => ?_))
      | exact ih0 _ _ _ _
      | exact ih1 _ _ _ _ _ _ _
      | exact ih2 _ _ _ _ _ _
      | exact ih3 _ _ _ _ _ _
      | exact ih4 _ _ _ _
      | exact ih5 _ _ _ _
      | exact foghornlaw05_rows.mono _ _ _
      | exact foghornlaw05_samples.mono _ _
      | exact foghornref02_Same.mono _ _ _
      | exact foghornref05_Row.mono _ _ _
      | exact slice_Lost.mono _ _
      | exact slice_Row.mono _ _ _
      | exact LeO.none _
      | refine LeO.ite ?_ ?_
      | refine LeO.bind ?_ (fun _ => ?_)
    · intro y0 y1 y2 y3
      unfold foghornlaw05_SliceRows.l3
      repeat' first
      | (with_reducible exact ih0 _ _ _ _)
      | (with_reducible exact ih1 _ _ _ _ _ _ _)
      | (with_reducible exact ih2 _ _ _ _ _ _)
      | (with_reducible exact ih3 _ _ _ _ _ _)
      | (with_reducible exact ih4 _ _ _ _)
      | (with_reducible exact ih5 _ _ _ _)
      | (with_reducible exact foghornlaw05_rows.mono _ _ _)
      | (with_reducible exact foghornlaw05_samples.mono _ _)
      | (with_reducible exact foghornref02_Same.mono _ _ _)
      | (with_reducible exact foghornref05_Row.mono _ _ _)
      | (with_reducible exact slice_Lost.mono _ _)
      | (with_reducible exact slice_Row.mono _ _ _)
      | (with_reducible exact LeO.refl _)
      | (with_reducible exact LeO.none _)
      | (with_reducible refine LeO.ite ?_ ?_)
      | (with_reducible refine LeO.bind ?_ (fun _ => ?_))
      | exact ih0 _ _ _ _
      | exact ih1 _ _ _ _ _ _ _
      | exact ih2 _ _ _ _ _ _
      | exact ih3 _ _ _ _ _ _
      | exact ih4 _ _ _ _
      | exact ih5 _ _ _ _
      | exact foghornlaw05_rows.mono _ _ _
      | exact foghornlaw05_samples.mono _ _
      | exact foghornref02_Same.mono _ _ _
      | exact foghornref05_Row.mono _ _ _
      | exact slice_Lost.mono _ _
      | exact slice_Row.mono _ _ _
      | exact LeO.none _
      | refine LeO.ite ?_ ?_
      | refine LeO.bind ?_ (fun _ => ?_)
theorem foghornlaw05_SliceRows.mono : ∀ a0 a1 k, LeO (foghornlaw05_SliceRows.f k a0 a1) (foghornlaw05_SliceRows.f (k + 1) a0 a1) := by
  intro a0 a1 k
  obtain ⟨ih0, ih1, ih2, ih3, ih4, ih5⟩ := foghornlaw05_SliceRows.mono_l k
  unfold foghornlaw05_SliceRows.f
  repeat' first
      | (with_reducible exact ih0 _ _ _ _)
      | (with_reducible exact ih1 _ _ _ _ _ _ _)
      | (with_reducible exact ih2 _ _ _ _ _ _)
      | (with_reducible exact ih3 _ _ _ _ _ _)
      | (with_reducible exact ih4 _ _ _ _)
      | (with_reducible exact ih5 _ _ _ _)
      | (with_reducible exact foghornlaw05_rows.mono _ _ _)
      | (with_reducible exact foghornlaw05_samples.mono _ _)
      | (with_reducible exact foghornref02_Same.mono _ _ _)
      | (with_reducible exact foghornref05_Row.mono _ _ _)
      | (with_reducible exact slice_Lost.mono _ _)
      | (with_reducible exact slice_Row.mono _ _ _)
      | (with_reducible exact LeO.refl _)
      | (with_reducible exact LeO.none _)
      | (with_reducible refine LeO.ite ?_ ?_)
      | (with_reducible refine LeO.bind ?_ (fun _ => ?_))
      | exact ih0 _ _ _ _
      | exact ih1 _ _ _ _ _ _ _
      | exact ih2 _ _ _ _ _ _
      | exact ih3 _ _ _ _ _ _
      | exact ih4 _ _ _ _
      | exact ih5 _ _ _ _
      | exact foghornlaw05_rows.mono _ _ _
      | exact foghornlaw05_samples.mono _ _
      | exact foghornref02_Same.mono _ _ _
      | exact foghornref05_Row.mono _ _ _
      | exact slice_Lost.mono _ _
      | exact slice_Row.mono _ _ _
      | exact LeO.none _
      | refine LeO.ite ?_ ?_
      | refine LeO.bind ?_ (fun _ => ?_)
/-- THE ONE PURE STATEMENT of foghornlaw05_SliceRows: ours. -/
def foghornlaw05_SliceRows.Pure : Prop := ∀ (a0 : Int) (l1 : List (S206)), ((Lit.int .i64 a0).wf = true) → (l1.length * 12 ≤ 140737488351232 ∧ ∀ x ∈ l1, (fun y_ : S206 => ((Lit.int .i32 y_.f0).wf = true) ∧ ((Lit.int .i32 y_.f1).wf = true) ∧ (True)) x) → (1 + ((l1.map (fun y_ : S206 => (1 + 1 + 1 + 1))).sum + 1) ≤ 1048576) → ∃ k, foghornlaw05_SliceRows.f k a0 l1 = some true

end Go.Proofs.Ythfcafllcgjepaa.Q
