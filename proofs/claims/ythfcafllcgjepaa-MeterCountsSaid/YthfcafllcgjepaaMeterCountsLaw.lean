import Derived.Test.YthfcafllcgjepaaRows
import Derived.Test.YthfcafllcgjepaaFacts
import Derived.Test.YthfcafllcgjepaaMeterCountsReads
import Derived.Test.YthfcafllcgjepaaMeterCountsQ3
import Derived.Test.YthfcafllcgjepaaMeterCountsPureMeterCounts
import Derived.WalkKit
import Derived.ProofKit
import Derived.OpenShut
import Derived.ShutString
import Derived.ChangeOld
import Derived.Below
import Derived.SizedLaws
import Derived.Carry
import Derived.JoinedCond
import Derived.Deep.CondSized
-- Printed by myprint.py (ours): the row of the law foghornlaw30_MeterCounts, out of its Pure and the printed walk.
namespace Go.Proofs.Ythfcafllcgjepaa.meterCounts
open Go.ChangeShapes Go.WideShapes Go.ChangeAt Go.RowKit Go.Proofs.YthfcafllcgjepaaW.PrintWords Go.Proofs.Ythfcafllcgjepaa.Q
open Go.ChangeMaps (open_string shut_string)
set_option linter.unusedVariables false
set_option linter.unusedSimpArgs false
theorem own : ownKnob Try.prog.godebug = none := by kernel_rfl
theorem laidOut : laidOutB Try.prog = true := by kernel_rfl
set_option maxRecDepth 100000 in
theorem kin61 : Reads.Kin k61 (fun y_ : S61 => (y_.f0.length * 1 ≤ 140737488351232 ∧ ∀ x ∈ y_.f0, (fun y_ : Bool => True) x) ∧ (y_.f1.length * 1 ≤ 140737488351232 ∧ ∀ x ∈ y_.f1, (fun y_ : Bool => True) x) ∧ ((Lit.int .i64 y_.f2).wf = true)) (fun y_ : S61 => (((y_.f0.map (fun y_ : Bool => 1)).sum + 1) + ((y_.f1.map (fun y_ : Bool => 1)).sum + 1) + 1 + 1)) Try.prog 61 := by
  intro H enc w base spare held fuel cs x h hL_
  obtain ⟨xs, n, _, rfl, hcl, hxl, hg⟩ := DataW.trod_struct Try.underlying61 h
  have hcl' : cs.length = 3 := hcl.trans (by kernel_rfl)
  have hxl' : xs.length = 3 := hxl
  match cs, hcl', xs, hxl' with
  | [c0, c1, c2], _, [x0, x1, x2], _ =>
    have g0 := hg 0 _ rfl
    obtain ⟨y0, hK0, hW0, hS0⟩ := Reads.field_of (Reads.Kin.slice Try.underlying36 (by kernel_rfl) (show Try.prog.bytesOf 4 = 1 from by kernel_rfl) (Reads.Kin.bool Try.underlying4)) 0 g0 Try.underlying61 hL_ rfl rfl
    have g1 := hg 1 _ rfl
    obtain ⟨y1, hK1, hW1, hS1⟩ := Reads.field_of (Reads.Kin.slice Try.underlying36 (by kernel_rfl) (show Try.prog.bytesOf 4 = 1 from by kernel_rfl) (Reads.Kin.bool Try.underlying4)) 1 g1 Try.underlying61 hL_ rfl rfl
    have g2 := hg 2 _ rfl
    obtain ⟨y2, hK2, hW2, hS2⟩ := Reads.field_of (Reads.Kin.int Try.underlying3) 2 g2 Try.underlying61 hL_ rfl rfl
    replace hK0 : Kd.K (Kd.slice 4 Kd.bool) w y0 [c0] := hK0
    replace hK1 : Kd.K (Kd.slice 4 Kd.bool) w y1 [c1] := hK1
    replace hK2 : Kd.K (Kd.int .i64) w y2 [c2] := hK2
    refine ⟨⟨y0, y1, y2⟩, ⟨[c0], [c1, c2], rfl, hK0, ⟨[c1], [c2], rfl, hK1, hK2⟩⟩, ⟨hW0, hW1, hW2⟩, ?_⟩
    refine Nat.le_trans (Nat.add_le_add_right (Nat.add_le_add (Nat.add_le_add hS0 hS1) hS2) 1) ?_
    simp only [List.map_cons, List.map_nil, Rows.uptoBulk, Rows.uptoBulkAll]
    omega
set_option maxRecDepth 100000 in
theorem lifted (os : Os) (started : os.Started) (H : Type) (enc : TypeId × Value → H) :
    ReturnsInHanded {} Try.checked os 6 .any (Rows.meterCountsSpec.pre6 enc Try.prog Try.f6 Rows.meterCountsRow.domain false) (Rows.meterCountsSpec.post enc Try.prog Try.f6 false true false false) := by
  refine returnsInHanded_of_change_sized (C := Try.checked) own started (by kernel_rfl) Try.func6
    (ChangeSpec.witness6 (enc := enc) (C := Try.checked) false ⟨#[], #[.slice none 0 0], []⟩ 8 (by kernel_rfl) (by kernel_rfl) (by kernel_rfl) (by kernel_rfl)) ?_
  intro W base args ds gs before hval0 hW hcnd hsz0 _
  have hval : ∀ (j : Nat) t v, Try.f6.params[j]? = some t → args[j]? = some v → Value.okWide Try.prog W .any base t v := hval0
  have hW' := hW
  obtain ⟨p, q, hA0, hV, rfl, hfz, hnd⟩ := hW
  have hA : DataW.TrodAll enc Try.prog W 0 (fun _ => true) true Try.f6.params.toList args.toList ds p := hA0
  have hsz : (DataW.weightsEach Try.prog (Try.f6.params.toList ++ Rows.meterCountsSpec.plain.varTypes Try.prog) (ds ++ gs)).all (· ≤ reachBytes) = true := hsz0
  rw [Try.params6] at hA hval hsz
  obtain ⟨v0, vs0, d0, ds0, p0, q0, hargs, rfl, rfl, h0, r0⟩ := trodAll_cons hA
  obtain ⟨rfl, rfl, rfl⟩ := trodAll_nil r0
  obtain rfl : args = #[v0] := by cases args; simp_all
  obtain ⟨rfl, rfl⟩ := trodVars_none hV
  obtain ⟨a0, len0, cap0, rfl⟩ := okWide_slice Try.underlying53 (hval 0 53 v0 rfl rfl)
  have k0 := h0
  have lt0 : ∀ x ∈ p0, x.block < W.heap.size := by obtain ⟨m, hm⟩ := k0; exact DataW.trod_lt m _ _ _ hm
  obtain ⟨fuel0, hf0⟩ := h0
  obtain ⟨y0, hK0, hw0, hb0_⟩ := (Reads.Kin.slice Try.underlying53 (by kernel_rfl) (show Try.prog.bytesOf 61 = 56 from by kernel_rfl) kin61) enc W _ _ _ fuel0 _ _ hf0 (Reads.Light.arg hsz (j := 0) (t := 53) rfl rfl)
  obtain ⟨A0, c0, e0, hc0, hr0⟩ := hK0
  simp only [Value.cells, List.cons.injEq, Value.slice.injEq, and_true] at e0
  obtain ⟨rfl, rfl, rfl⟩ := e0
  clear hA0 hval0
  refine (Q.foghornlaw30_MeterCounts.walk Pure.MeterCounts _ _ y0 W hr0 hc0 hw0).mono fun e W' ⟨he, bel⟩ => ?_
  subst he
  exact ⟨_, rfl, _, _, _, [], _, [], hW', trodAll_mk1 (shut_bool Try.underlying4 _), (trodAll_cons_mk (Below.trod laidOut (by kernel_rfl) (of_decide_eq_true (by kernel_rfl)) k0 bel lt0) trodAll_mk0), rfl, bel.frame _, fun h => by cases h⟩
theorem closed : joinedFacts Try.pinned.checked.prog 6 Try.f6 Rows.meterCountsSpec Rows.meterCountsRow = true := by
  unfold joinedFacts
  rw [Facts.laid, Facts.rowed, Facts.keys, Facts.heard, Facts.enters, Facts.lifts, Facts.makes]
  kernel_rfl
theorem over : Rows.meterCountsRow.holds Try.pinned (OpenSpec.ofChange Rows.meterCountsSpec) :=
  OpenClaim.holds_of_wide 6 Try.f6 rfl rfl rfl rfl rfl rfl rfl ⟨rfl, rfl, rfl, rfl, rfl⟩ rfl rfl rfl rfl rfl (by kernel_rfl) Try.func6 closed
    (of_decide_eq_true (by kernel_rfl)) (by unfold Func.isWrapper; first | (rw [if_pos (by decide +kernel)]; kernel_rfl) | (rw [if_neg (by decide +kernel)]; exact ⟨rfl, rfl⟩))
    (fun os started H enc _ => lifted os started H enc)
theorem proved : Rows.MeterCountsSaid := over
#print axioms proved
end Go.Proofs.Ythfcafllcgjepaa.meterCounts
namespace Go.Proofs.Ythfcafllcgjepaa
/-- The row, under a short name, for the claim. -/
theorem meterCounts_holds : Rows.MeterCountsSaid := meterCounts.proved
end Go.Proofs.Ythfcafllcgjepaa
