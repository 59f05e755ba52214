import Derived.Test.YthfcafllcgjepaaRows
import Derived.Test.YthfcafllcgjepaaFacts
import Derived.Test.YthfcafllcgjepaaSliceRowsReads
import Derived.Test.YthfcafllcgjepaaSliceRowsQ6
import Derived.Test.YthfcafllcgjepaaSliceRowsPureSliceRows
import Derived.WalkKit
import Derived.ProofKit
import Derived.OpenShut
import Derived.ShutString
import Derived.ChangeOld
import Derived.Below
import Derived.SizedLaws
import Derived.Carry
import Derived.JoinedCond
import Derived.Deep.CondSized
-- Printed by myprint.py (ours): the row of the law foghornlaw05_SliceRows, out of its Pure and the printed walk.
namespace Go.Proofs.Ythfcafllcgjepaa.sliceRows
open Go.ChangeShapes Go.WideShapes Go.ChangeAt Go.RowKit Go.Proofs.YthfcafllcgjepaaW.PrintWords Go.Proofs.Ythfcafllcgjepaa.Q
open Go.ChangeMaps (open_string shut_string)
set_option linter.unusedVariables false
set_option linter.unusedSimpArgs false
theorem own : ownKnob Try.prog.godebug = none := by kernel_rfl
theorem laidOut : laidOutB Try.prog = true := by kernel_rfl
set_option maxRecDepth 100000 in
theorem kin206 : Reads.Kin k206 (fun y_ : S206 => ((Lit.int .i32 y_.f0).wf = true) ∧ ((Lit.int .i32 y_.f1).wf = true) ∧ (True)) (fun y_ : S206 => (1 + 1 + 1 + 1)) Try.prog 206 := by
  intro H enc w base spare held fuel cs x h hL_
  obtain ⟨xs, n, _, rfl, hcl, hxl, hg⟩ := DataW.trod_struct Try.underlying206 h
  have hcl' : cs.length = 3 := hcl.trans (by kernel_rfl)
  have hxl' : xs.length = 3 := hxl
  match cs, hcl', xs, hxl' with
  | [c0, c1, c2], _, [x0, x1, x2], _ =>
    have g0 := hg 0 _ rfl
    obtain ⟨y0, hK0, hW0, hS0⟩ := Reads.field_of (Reads.Kin.int Try.underlying21) 0 g0 Try.underlying206 hL_ rfl rfl
    have g1 := hg 1 _ rfl
    obtain ⟨y1, hK1, hW1, hS1⟩ := Reads.field_of (Reads.Kin.int Try.underlying21) 1 g1 Try.underlying206 hL_ rfl rfl
    have g2 := hg 2 _ rfl
    obtain ⟨y2, hK2, hW2, hS2⟩ := Reads.field_of (Reads.Kin.bool Try.underlying4) 2 g2 Try.underlying206 hL_ rfl rfl
    replace hK0 : Kd.K (Kd.int .i32) w y0 [c0] := hK0
    replace hK1 : Kd.K (Kd.int .i32) w y1 [c1] := hK1
    replace hK2 : Kd.K Kd.bool w y2 [c2] := hK2
    refine ⟨⟨y0, y1, y2⟩, ⟨[c0], [c1, c2], rfl, hK0, ⟨[c1], [c2], rfl, hK1, hK2⟩⟩, ⟨hW0, hW1, hW2⟩, ?_⟩
    refine Nat.le_trans (Nat.add_le_add_right (Nat.add_le_add (Nat.add_le_add hS0 hS1) hS2) 1) ?_
    simp only [List.map_cons, List.map_nil, Rows.uptoBulk, Rows.uptoBulkAll]
    omega
set_option maxRecDepth 100000 in
theorem lifted (os : Os) (started : os.Started) (H : Type) (enc : TypeId × Value → H) (F : Stop.Interp) :
    ReturnsInHanded {} Try.checked os 13 .any ((Rows.OpenSpec.upto Rows.sliceRowsSpec).pre6 enc Try.prog Try.f13 Rows.sliceRowsUptoRow.domain false) (((Rows.OpenSpec.upto Rows.sliceRowsSpec).at F).post enc Try.prog Try.f13 false true false false) := by
  refine returnsInHanded_of_cond_sized (C := Try.checked) (s := Rows.OpenSpec.upto Rows.sliceRowsSpec) (k := Rows.uptoSmall) rfl own started (by kernel_rfl) Try.func13
    (OpenSpec.witness (enc := enc) (C := Try.checked) (s := Rows.OpenSpec.upto Rows.sliceRowsSpec) (k := Rows.uptoSmall) rfl false ⟨#[], #[.int .i64 0, .slice none 0 0], []⟩ 8 (by kernel_rfl) (by kernel_rfl) (by kernel_rfl)
      (x := ([.lit (.int .i64 0), .nil], [], [])) (by kernel_rfl) rfl (by kernel_rfl)) ?_
  intro W base args ds gs before hval0 hW hcnd hk_ hsz0 _
  have hval : ∀ (j : Nat) t v, Try.f13.params[j]? = some t → args[j]? = some v → Value.okWide Try.prog W .any base t v := hval0
  have hW' := hW
  obtain ⟨p, q, hA0, hV, rfl, hfz, hnd⟩ := hW
  have hA : DataW.TrodAll enc Try.prog W 0 (fun _ => true) true Try.f13.params.toList args.toList ds p := hA0
  have hsz : (DataW.weightsEach Try.prog (Try.f13.params.toList ++ Rows.sliceRowsSpec.plain.varTypes Try.prog) (ds ++ gs)).all (· ≤ reachBytes) = true := hsz0
  rw [Try.params13] at hA hval hsz
  obtain ⟨v0, vs0, d0, ds0, p0, q0, hargs, rfl, rfl, h0, r0⟩ := trodAll_cons hA
  obtain ⟨v1, vs1, d1, ds1, p1, q1, rfl, rfl, rfl, h1, r1⟩ := trodAll_cons r0
  obtain ⟨rfl, rfl, rfl⟩ := trodAll_nil r1
  obtain rfl : args = #[v0, v1] := by cases args; simp_all
  obtain ⟨rfl, rfl⟩ := trodVars_none hV
  obtain ⟨a0, rfl, rfl, rfl, hw0⟩ := open_int Try.underlying3 (hval 0 3 v0 rfl rfl) h0
  obtain ⟨a1, len1, cap1, rfl⟩ := okWide_slice Try.underlying116 (hval 1 116 v1 rfl rfl)
  have k1 := h1
  have lt1 : ∀ x ∈ p1, x.block < W.heap.size := by obtain ⟨m, hm⟩ := k1; exact DataW.trod_lt m _ _ _ hm
  obtain ⟨fuel1, hf1⟩ := h1
  obtain ⟨y1, hK1, hw1, hb1_⟩ := (Reads.Kin.slice Try.underlying116 (by kernel_rfl) (show Try.prog.bytesOf 206 = 12 from by kernel_rfl) kin206) enc W _ _ _ fuel1 _ _ hf1 (Reads.Light.arg hsz (j := 1) (t := 116) rfl rfl)
  obtain ⟨A1, c1, e1, hc1, hr1⟩ := hK1
  simp only [Value.cells, List.cons.injEq, Value.slice.injEq, and_true] at e1
  obtain ⟨rfl, rfl, rfl⟩ := e1
  have hkk_ : 1 + ((y1.map (fun y_ : S206 => (1 + 1 + 1 + 1))).sum + 1) ≤ 1048576 := by
    have h_ := of_decide_eq_true hk_
    simp only [List.cons_append, List.nil_append, List.append_nil, Rows.uptoBulkAll] at h_
    have ho0_ := Reads.one_le (H := H) (.lit (.int .i64 a0))
    have hc1_ : ((y1.map (fun y_ : S206 => (1 + 1 + 1 + 1))).sum + 1) ≤ Rows.uptoBulk d1 := hb1_
    omega
  clear hA0 hval0
  refine (Q.foghornlaw05_SliceRows.walk Pure.SliceRows a0 _ _ y1 W  hr1 hc1 hw0 hw1 hkk_).mono fun e W' ⟨he, bel⟩ => ?_
  subst he
  exact ⟨_, rfl, _, _, _, [], _, [], hW', trodAll_mk1 (shut_bool Try.underlying4 _), (trodAll_cons_mk (shut_int Try.underlying3 hw0) (trodAll_cons_mk (Below.trod laidOut (by kernel_rfl) (of_decide_eq_true (by kernel_rfl)) k1 bel lt1) trodAll_mk0)), rfl, bel.frame _, fun h => by cases h⟩
theorem closed : joinedFacts Try.pinned.checked.prog 13 Try.f13 (Rows.OpenSpec.upto Rows.sliceRowsSpec).bare Rows.sliceRowsUptoRow = true := by
  unfold joinedFacts
  rw [Facts.laid, Facts.rowed, Facts.keys, Facts.heard, Facts.enters, Facts.lifts, Facts.makes]
  kernel_rfl
theorem over : Rows.sliceRowsUptoRow.holds Try.pinned (Rows.OpenSpec.upto Rows.sliceRowsSpec) :=
  OpenClaim.holds_of_cond 13 Try.f13 rfl rfl rfl rfl rfl rfl rfl ⟨rfl, rfl, rfl, rfl, rfl⟩ rfl rfl rfl rfl rfl (by kernel_rfl) Try.func13 closed
    (of_decide_eq_true (by kernel_rfl)) (by unfold Func.isWrapper; first | (rw [if_pos (by decide +kernel)]; kernel_rfl) | (rw [if_neg (by decide +kernel)]; exact ⟨rfl, rfl⟩))
    (fun os started H enc _ F => lifted os started H enc F)
theorem proved : Rows.SliceRowsUptoSaid := over
#print axioms proved
end Go.Proofs.Ythfcafllcgjepaa.sliceRows
namespace Go.Proofs.Ythfcafllcgjepaa
/-- The row, under a short name, for the claim. -/
theorem sliceRows_holds : Rows.SliceRowsUptoSaid := sliceRows.proved
end Go.Proofs.Ythfcafllcgjepaa
