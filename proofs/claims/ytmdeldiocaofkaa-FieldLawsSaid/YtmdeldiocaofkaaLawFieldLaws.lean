-- Printed by myprint.py (ours): the row of the law foghornlaw18_FieldLaws, out of its Pure and the printed walk.
import Derived.Test.YtmdeldiocaofkaaRows
import Derived.Test.YtmdeldiocaofkaaReads
import Derived.Test.YtmdeldiocaofkaaQ8
import Derived.Test.YtmdeldiocaofkaaPureFieldLaws
import Derived.WalkKit
import Derived.ProofKit
import Derived.OpenShut
import Derived.ShutString
import Derived.ChangeOld
import Derived.Below
import Derived.SizedLaws
import Derived.Carry
namespace Go.Proofs.Ytmdeldiocaofkaa.fieldLaws
open Go.ChangeShapes Go.WideShapes Go.ChangeAt Go.RowKit Go.Proofs.YtmdeldiocaofkaaW.PrintWords Go.Proofs.Ytmdeldiocaofkaa.Q
open Go.ChangeMaps (open_string shut_string)
set_option linter.unusedVariables false
theorem own : ownKnob Try.prog.godebug = none := by kernel_rfl
theorem laidOut : laidOutB Try.prog = true := by kernel_rfl
set_option maxRecDepth 100000 in
theorem kin39 : Reads.Kin k39 (fun y_ : S39 => ((Lit.int .u8 y_.f0).wf = true) ∧ ((Lit.int .u8 y_.f1).wf = true) ∧ ((Lit.int .u8 y_.f2).wf = true) ∧ ((Lit.int .i32 y_.f3).wf = true) ∧ ((Lit.int .i32 y_.f4).wf = true)) Try.prog 39 := by
  intro H enc w base spare held fuel cs x h
  obtain ⟨xs, n, _, _, hcl, hxl, hg⟩ := DataW.trod_struct Try.underlying39 h
  have hcl' : cs.length = 5 := hcl.trans (by kernel_rfl)
  have hxl' : xs.length = 5 := hxl
  match cs, hcl' with
  | [c0, c1, c2, c3, c4], _ =>
    have g0 := hg 0 _ rfl
    obtain ⟨y0, hK0, hW0⟩ := Reads.field_of (Reads.Kin.int Try.underlying5) (by omega) g0
    have g1 := hg 1 _ rfl
    obtain ⟨y1, hK1, hW1⟩ := Reads.field_of (Reads.Kin.int Try.underlying5) (by omega) g1
    have g2 := hg 2 _ rfl
    obtain ⟨y2, hK2, hW2⟩ := Reads.field_of (Reads.Kin.int Try.underlying5) (by omega) g2
    have g3 := hg 3 _ rfl
    obtain ⟨y3, hK3, hW3⟩ := Reads.field_of (Reads.Kin.int Try.underlying21) (by omega) g3
    have g4 := hg 4 _ rfl
    obtain ⟨y4, hK4, hW4⟩ := Reads.field_of (Reads.Kin.int Try.underlying21) (by omega) g4
    replace hK0 : Kd.K (Kd.int .u8) w y0 [c0] := hK0
    replace hK1 : Kd.K (Kd.int .u8) w y1 [c1] := hK1
    replace hK2 : Kd.K (Kd.int .u8) w y2 [c2] := hK2
    replace hK3 : Kd.K (Kd.int .i32) w y3 [c3] := hK3
    replace hK4 : Kd.K (Kd.int .i32) w y4 [c4] := hK4
    exact ⟨⟨y0, y1, y2, y3, y4⟩, ⟨[c0], [c1, c2, c3, c4], rfl, hK0, ⟨[c1], [c2, c3, c4], rfl, hK1, ⟨[c2], [c3, c4], rfl, hK2, ⟨[c3], [c4], rfl, hK3, hK4⟩⟩⟩⟩, ⟨hW0, hW1, hW2, hW3, hW4⟩⟩
set_option maxRecDepth 100000 in
theorem lifted (os : Os) (started : os.Started) (H : Type) (enc : TypeId × Value → H) :
    ReturnsInHanded {} Try.checked os 5 .any (Rows.fieldLawsSpec.pre6 enc Try.prog Try.f5 Rows.fieldLawsRow.domain false) (Rows.fieldLawsSpec.post enc Try.prog Try.f5 false true false false) := by
  refine returnsInHanded_of_change_sized (C := Try.checked) own started (by kernel_rfl) Try.func5
    (ChangeSpec.witness6 (enc := enc) (C := Try.checked) false ⟨#[], #[.agg #[.int .u8 0, .int .u8 0, .int .u8 0, .int .i32 0, .int .i32 0]], []⟩ 8 (by kernel_rfl) (by kernel_rfl) (by kernel_rfl) (by kernel_rfl)) ?_
  intro W base args ds gs before hval0 hW hcnd hsz0 _
  have hval : ∀ (j : Nat) t v, Try.f5.params[j]? = some t → args[j]? = some v → Value.okWide Try.prog W .any base t v := hval0
  have hW' := hW
  obtain ⟨p, q, hA0, hV, rfl, hfz, hnd⟩ := hW
  have hA : DataW.TrodAll enc Try.prog W 0 (fun _ => true) true Try.f5.params.toList args.toList ds p := hA0
  rw [Try.params5] at hA hval
  obtain ⟨v0, vs0, d0, ds0, p0, q0, hargs, rfl, rfl, h0, r0⟩ := trodAll_cons hA
  obtain ⟨rfl, rfl, rfl⟩ := trodAll_nil r0
  obtain rfl : args = #[v0] := by cases args; simp_all
  obtain ⟨rfl, rfl⟩ := trodVars_none hV
  obtain ⟨cs0, rfl, hz0⟩ := okWide_struct Try.underlying39 (hval 0 39 v0 rfl rfl)
  have k0 := h0
  have lt0 : ∀ x ∈ p0, x.block < W.heap.size := by obtain ⟨m, hm⟩ := k0; exact DataW.trod_lt m _ _ _ hm
  obtain ⟨fuel0, hf0⟩ := h0
  obtain ⟨y0, hK0, hw0⟩ := kin39 enc W _ _ _ fuel0 _ _ hf0
  have e0 := k39_open hK0
  obtain rfl : cs0 = #[.int .u8 y0.f0, .int .u8 y0.f1, .int .u8 y0.f2, .int .i32 y0.f3, .int .i32 y0.f4] := by
    apply Array.toList_inj.1
    exact e0
  clear hA0 hval0
  refine (Q.foghornlaw18_FieldLaws.walk Pure.FieldLaws y0.f0 y0.f1 y0.f2 y0.f3 y0.f4 W  hw0.1 hw0.2.1 hw0.2.2.1 hw0.2.2.2.1 hw0.2.2.2.2).mono fun e W' ⟨he, bel⟩ => ?_
  subst he
  exact ⟨_, rfl, _, _, _, [], _, [], hW', trodAll_mk1 (shut_bool Try.underlying4 _), (trodAll_cons_mk (Below.trod laidOut (by kernel_rfl) (of_decide_eq_true (by kernel_rfl)) k0 bel lt0) trodAll_mk0), rfl, bel.frame _, fun h => by cases h⟩
theorem over : Rows.fieldLawsRow.holds Try.pinned (OpenSpec.ofChange Rows.fieldLawsSpec) :=
  OpenClaim.holds_of_wide 5 Try.f5 rfl rfl rfl rfl rfl rfl rfl ⟨rfl, rfl, rfl, rfl, rfl⟩ rfl rfl rfl rfl rfl (by kernel_rfl) Try.func5 (by kernel_rfl)
    (of_decide_eq_true (by kernel_rfl)) (by unfold Func.isWrapper; first | (rw [if_pos (by decide +kernel)]; kernel_rfl) | (rw [if_neg (by decide +kernel)]; exact ⟨rfl, rfl⟩))
    (fun os started H enc _ => lifted os started H enc)
theorem proved : Rows.FieldLawsSaid := over
#print axioms proved
end Go.Proofs.Ytmdeldiocaofkaa.fieldLaws
namespace Go.Proofs.Ytmdeldiocaofkaa
/-- The row, under a short name, for the claim. -/
theorem fieldLaws_holds : Rows.FieldLawsSaid := fieldLaws.proved
end Go.Proofs.Ytmdeldiocaofkaa
