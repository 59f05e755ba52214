import Derived.Test.YtmdeldiocaofkaaRows
import Derived.Test.YtmdeldiocaofkaaReads
import Derived.Test.YtmdeldiocaofkaaFieldRingsQ4
import Derived.Test.YtmdeldiocaofkaaFieldRingsPureFieldRings
import Derived.WalkKit
import Derived.ProofKit
import Derived.OpenShut
import Derived.ShutString
import Derived.ChangeOld
import Derived.Below
import Derived.SizedLaws
import Derived.Carry
-- Printed by myprint.py (ours): the row of the law foghornlaw18_FieldRings, out of its Pure and the printed walk.
namespace Go.Proofs.Ytmdeldiocaofkaa.fieldRings
open Go.ChangeShapes Go.WideShapes Go.ChangeAt Go.RowKit Go.Proofs.YtmdeldiocaofkaaW.PrintWords Go.Proofs.Ytmdeldiocaofkaa.Q
open Go.ChangeMaps (open_string shut_string)
set_option linter.unusedVariables false
theorem own : ownKnob Try.prog.godebug = none := by kernel_rfl
theorem laidOut : laidOutB Try.prog = true := by kernel_rfl
set_option maxRecDepth 100000 in
theorem kin63 : Reads.Kin k63 (fun y_ : S63 => (y_.f0.length ≤ maxLen ∧ ∀ x ∈ y_.f0, (fun y_ : Int => (Lit.int .u8 y_).wf = true) x) ∧ (y_.f1.length ≤ maxLen ∧ ∀ x ∈ y_.f1, (fun y_ : Int => (Lit.int .u8 y_).wf = true) x) ∧ (y_.f2.length ≤ maxLen ∧ ∀ x ∈ y_.f2, (fun y_ : Int => (Lit.int .u8 y_).wf = true) x) ∧ ((Lit.int .u8 y_.f3).wf = true)) Try.prog 63 := by
  intro H enc w base spare held fuel cs x h
  obtain ⟨xs, n, _, _, hcl, hxl, hg⟩ := DataW.trod_struct Try.underlying63 h
  have hcl' : cs.length = 4 := hcl.trans (by kernel_rfl)
  have hxl' : xs.length = 4 := hxl
  match cs, hcl' with
  | [c0, c1, c2, c3], _ =>
    have g0 := hg 0 _ rfl
    obtain ⟨y0, hK0, hW0⟩ := Reads.field_of (Reads.Kin.slice Try.underlying22 (by kernel_rfl) (Reads.Kin.int Try.underlying5)) (by omega) g0
    have g1 := hg 1 _ rfl
    obtain ⟨y1, hK1, hW1⟩ := Reads.field_of (Reads.Kin.slice Try.underlying22 (by kernel_rfl) (Reads.Kin.int Try.underlying5)) (by omega) g1
    have g2 := hg 2 _ rfl
    obtain ⟨y2, hK2, hW2⟩ := Reads.field_of (Reads.Kin.slice Try.underlying22 (by kernel_rfl) (Reads.Kin.int Try.underlying5)) (by omega) g2
    have g3 := hg 3 _ rfl
    obtain ⟨y3, hK3, hW3⟩ := Reads.field_of (Reads.Kin.int Try.underlying5) (by omega) g3
    replace hK0 : Kd.K (Kd.slice 5 (Kd.int .u8)) w y0 [c0] := hK0
    replace hK1 : Kd.K (Kd.slice 5 (Kd.int .u8)) w y1 [c1] := hK1
    replace hK2 : Kd.K (Kd.slice 5 (Kd.int .u8)) w y2 [c2] := hK2
    replace hK3 : Kd.K (Kd.int .u8) w y3 [c3] := hK3
    exact ⟨⟨y0, y1, y2, y3⟩, ⟨[c0], [c1, c2, c3], rfl, hK0, ⟨[c1], [c2, c3], rfl, hK1, ⟨[c2], [c3], rfl, hK2, hK3⟩⟩⟩, ⟨hW0, hW1, hW2, hW3⟩⟩
set_option maxRecDepth 100000 in
theorem lifted (os : Os) (started : os.Started) (H : Type) (enc : TypeId × Value → H) :
    ReturnsInHanded {} Try.checked os 11 .any (Rows.fieldRingsSpec.pre6 enc Try.prog Try.f11 Rows.fieldRingsRow.domain false) (Rows.fieldRingsSpec.post enc Try.prog Try.f11 false true false false) := by
  refine returnsInHanded_of_change_sized (C := Try.checked) own started (by kernel_rfl) Try.func11
    (ChangeSpec.witness6 (enc := enc) (C := Try.checked) false ⟨#[], #[.agg #[.slice none 0 0, .slice none 0 0, .slice none 0 0, .int .u8 0]], []⟩ 8 (by kernel_rfl) (by kernel_rfl) (by kernel_rfl) (by kernel_rfl)) ?_
  intro W base args ds gs before hval0 hW hcnd hsz0 _
  have hval : ∀ (j : Nat) t v, Try.f11.params[j]? = some t → args[j]? = some v → Value.okWide Try.prog W .any base t v := hval0
  have hW' := hW
  obtain ⟨p, q, hA0, hV, rfl, hfz, hnd⟩ := hW
  have hA : DataW.TrodAll enc Try.prog W 0 (fun _ => true) true Try.f11.params.toList args.toList ds p := hA0
  rw [Try.params11] at hA hval
  obtain ⟨v0, vs0, d0, ds0, p0, q0, hargs, rfl, rfl, h0, r0⟩ := trodAll_cons hA
  obtain ⟨rfl, rfl, rfl⟩ := trodAll_nil r0
  obtain rfl : args = #[v0] := by cases args; simp_all
  obtain ⟨rfl, rfl⟩ := trodVars_none hV
  obtain ⟨cs0, rfl, hz0⟩ := okWide_struct Try.underlying63 (hval 0 63 v0 rfl rfl)
  have k0 := h0
  have lt0 : ∀ x ∈ p0, x.block < W.heap.size := by obtain ⟨m, hm⟩ := k0; exact DataW.trod_lt m _ _ _ hm
  obtain ⟨fuel0, hf0⟩ := h0
  obtain ⟨y0, hK0, hw0⟩ := kin63 enc W _ _ _ fuel0 _ _ hf0
  obtain ⟨A0_0, c0_0, A0_1, c0_1, A0_2, c0_2, e0, hc0_0, hr0_0, hc0_1, hr0_1, hc0_2, hr0_2⟩ := k63_open hK0
  obtain rfl : cs0 = #[.slice A0_0 y0.f0.length c0_0, .slice A0_1 y0.f1.length c0_1, .slice A0_2 y0.f2.length c0_2, .int .u8 y0.f3] := by
    apply Array.toList_inj.1
    exact e0
  clear hA0 hval0
  refine (Q.foghornlaw18_FieldRings.walk Pure.FieldRings _ _ y0.f0 _ _ y0.f1 _ _ y0.f2 y0.f3 W hr0_0 hc0_0 hr0_1 hc0_1 hr0_2 hc0_2 hw0.1 hw0.2.1 hw0.2.2.1 hw0.2.2.2).mono fun e W' ⟨he, bel⟩ => ?_
  subst he
  exact ⟨_, rfl, _, _, _, [], _, [], hW', trodAll_mk1 (shut_bool Try.underlying4 _), (trodAll_cons_mk (Below.trod laidOut (by kernel_rfl) (of_decide_eq_true (by kernel_rfl)) k0 bel lt0) trodAll_mk0), rfl, bel.frame _, fun h => by cases h⟩
theorem over : Rows.fieldRingsRow.holds Try.pinned (OpenSpec.ofChange Rows.fieldRingsSpec) :=
  OpenClaim.holds_of_wide 11 Try.f11 rfl rfl rfl rfl rfl rfl rfl ⟨rfl, rfl, rfl, rfl, rfl⟩ rfl rfl rfl rfl rfl (by kernel_rfl) Try.func11 (by kernel_rfl)
    (of_decide_eq_true (by kernel_rfl)) (by unfold Func.isWrapper; first | (rw [if_pos (by decide +kernel)]; kernel_rfl) | (rw [if_neg (by decide +kernel)]; exact ⟨rfl, rfl⟩))
    (fun os started H enc _ => lifted os started H enc)
theorem proved : Rows.FieldRingsSaid := over
#print axioms proved
end Go.Proofs.Ytmdeldiocaofkaa.fieldRings
namespace Go.Proofs.Ytmdeldiocaofkaa
/-- The row, under a short name, for the claim. -/
theorem fieldRings_holds : Rows.FieldRingsSaid := fieldRings.proved
end Go.Proofs.Ytmdeldiocaofkaa
