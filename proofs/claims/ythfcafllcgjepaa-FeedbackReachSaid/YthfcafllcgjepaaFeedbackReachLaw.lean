import Derived.Test.YthfcafllcgjepaaRows
import Derived.Test.YthfcafllcgjepaaFacts
import Derived.Test.YthfcafllcgjepaaFeedbackReachReads
import Derived.Test.YthfcafllcgjepaaFeedbackReachQ8
import Derived.Test.YthfcafllcgjepaaFeedbackReachPureFeedbackReach
import Derived.WalkKit
import Derived.ProofKit
import Derived.OpenShut
import Derived.ShutString
import Derived.ChangeOld
import Derived.Below
import Derived.SizedLaws
import Derived.Carry
import Derived.JoinedCond
import Derived.Deep.CondSized
-- Printed by myprint.py (ours): the row of the law foghornlaw11_FeedbackReach, out of its Pure and the printed walk.
namespace Go.Proofs.Ythfcafllcgjepaa.feedbackReach
open Go.ChangeShapes Go.WideShapes Go.ChangeAt Go.RowKit Go.Proofs.YthfcafllcgjepaaW.PrintWords Go.Proofs.Ythfcafllcgjepaa.Q
open Go.ChangeMaps (open_string shut_string)
set_option linter.unusedVariables false
set_option linter.unusedSimpArgs false
theorem own : ownKnob Try.prog.godebug = none := by kernel_rfl
theorem laidOut : laidOutB Try.prog = true := by kernel_rfl
set_option maxRecDepth 100000 in
theorem kin174 : Reads.Kin k174 (fun y_ : S174 => ((Lit.int .i64 y_.f0).wf = true) ∧ ((Lit.int .i64 y_.f1).wf = true) ∧ (True)) (fun y_ : S174 => (1 + 1 + 1 + 1)) Try.prog 174 := by
  intro H enc w base spare held fuel cs x h hL_
  obtain ⟨xs, n, _, rfl, hcl, hxl, hg⟩ := DataW.trod_struct Try.underlying174 h
  have hcl' : cs.length = 3 := hcl.trans (by kernel_rfl)
  have hxl' : xs.length = 3 := hxl
  match cs, hcl', xs, hxl' with
  | [c0, c1, c2], _, [x0, x1, x2], _ =>
    have g0 := hg 0 _ rfl
    obtain ⟨y0, hK0, hW0, hS0⟩ := Reads.field_of (Reads.Kin.int Try.underlying2) 0 g0 Try.underlying174 hL_ rfl rfl
    have g1 := hg 1 _ rfl
    obtain ⟨y1, hK1, hW1, hS1⟩ := Reads.field_of (Reads.Kin.int Try.underlying2) 1 g1 Try.underlying174 hL_ rfl rfl
    have g2 := hg 2 _ rfl
    obtain ⟨y2, hK2, hW2, hS2⟩ := Reads.field_of (Reads.Kin.bool Try.underlying4) 2 g2 Try.underlying174 hL_ rfl rfl
    replace hK0 : Kd.K (Kd.int .i64) w y0 [c0] := hK0
    replace hK1 : Kd.K (Kd.int .i64) w y1 [c1] := hK1
    replace hK2 : Kd.K Kd.bool w y2 [c2] := hK2
    refine ⟨⟨y0, y1, y2⟩, ⟨[c0], [c1, c2], rfl, hK0, ⟨[c1], [c2], rfl, hK1, hK2⟩⟩, ⟨hW0, hW1, hW2⟩, ?_⟩
    refine Nat.le_trans (Nat.add_le_add_right (Nat.add_le_add (Nat.add_le_add hS0 hS1) hS2) 1) ?_
    simp only [List.map_cons, List.map_nil, Rows.uptoBulk, Rows.uptoBulkAll]
    omega
set_option maxRecDepth 100000 in
theorem kin171 : Reads.Kin k171 (fun y_ : S171 => ((Lit.int .i32 y_.f0).wf = true) ∧ ((Lit.int .i32 y_.f1).wf = true)) (fun y_ : S171 => (1 + 1 + 1)) Try.prog 171 := by
  intro H enc w base spare held fuel cs x h hL_
  obtain ⟨xs, n, _, rfl, hcl, hxl, hg⟩ := DataW.trod_struct Try.underlying171 h
  have hcl' : cs.length = 2 := hcl.trans (by kernel_rfl)
  have hxl' : xs.length = 2 := hxl
  match cs, hcl', xs, hxl' with
  | [c0, c1], _, [x0, x1], _ =>
    have g0 := hg 0 _ rfl
    obtain ⟨y0, hK0, hW0, hS0⟩ := Reads.field_of (Reads.Kin.int Try.underlying21) 0 g0 Try.underlying171 hL_ rfl rfl
    have g1 := hg 1 _ rfl
    obtain ⟨y1, hK1, hW1, hS1⟩ := Reads.field_of (Reads.Kin.int Try.underlying21) 1 g1 Try.underlying171 hL_ rfl rfl
    replace hK0 : Kd.K (Kd.int .i32) w y0 [c0] := hK0
    replace hK1 : Kd.K (Kd.int .i32) w y1 [c1] := hK1
    refine ⟨⟨y0, y1⟩, ⟨[c0], [c1], rfl, hK0, hK1⟩, ⟨hW0, hW1⟩, ?_⟩
    refine Nat.le_trans (Nat.add_le_add_right (Nat.add_le_add hS0 hS1) 1) ?_
    simp only [List.map_cons, List.map_nil, Rows.uptoBulk, Rows.uptoBulkAll]
    omega
set_option maxRecDepth 100000 in
theorem lifted (os : Os) (started : os.Started) (H : Type) (enc : TypeId × Value → H) :
    ReturnsInHanded {} Try.checked os 22 .any (Rows.feedbackReachSpec.pre6 enc Try.prog Try.f22 Rows.feedbackReachRow.domain false) (Rows.feedbackReachSpec.post enc Try.prog Try.f22 false true false false) := by
  refine returnsInHanded_of_change_sized (C := Try.checked) own started (by kernel_rfl) Try.func22
    (ChangeSpec.witness6 (enc := enc) (C := Try.checked) false ⟨#[], #[.int .i64 0, .slice none 0 0, .int .i64 0, .int .i64 0, .slice none 0 0, .slice none 0 0], []⟩ 8 (by kernel_rfl) (by kernel_rfl) (by kernel_rfl) (by kernel_rfl)) ?_
  intro W base args ds gs before hval0 hW hcnd hsz0 _
  have hval : ∀ (j : Nat) t v, Try.f22.params[j]? = some t → args[j]? = some v → Value.okWide Try.prog W .any base t v := hval0
  have hW' := hW
  obtain ⟨p, q, hA0, hV, rfl, hfz, hnd⟩ := hW
  have hA : DataW.TrodAll enc Try.prog W 0 (fun _ => true) true Try.f22.params.toList args.toList ds p := hA0
  have hsz : (DataW.weightsEach Try.prog (Try.f22.params.toList ++ Rows.feedbackReachSpec.plain.varTypes Try.prog) (ds ++ gs)).all (· ≤ reachBytes) = true := hsz0
  rw [Try.params22] at hA hval hsz
  obtain ⟨v0, vs0, d0, ds0, p0, q0, hargs, rfl, rfl, h0, r0⟩ := trodAll_cons hA
  obtain ⟨v1, vs1, d1, ds1, p1, q1, rfl, rfl, rfl, h1, r1⟩ := trodAll_cons r0
  obtain ⟨v2, vs2, d2, ds2, p2, q2, rfl, rfl, rfl, h2, r2⟩ := trodAll_cons r1
  obtain ⟨v3, vs3, d3, ds3, p3, q3, rfl, rfl, rfl, h3, r3⟩ := trodAll_cons r2
  obtain ⟨v4, vs4, d4, ds4, p4, q4, rfl, rfl, rfl, h4, r4⟩ := trodAll_cons r3
  obtain ⟨v5, vs5, d5, ds5, p5, q5, rfl, rfl, rfl, h5, r5⟩ := trodAll_cons r4
  obtain ⟨rfl, rfl, rfl⟩ := trodAll_nil r5
  obtain rfl : args = #[v0, v1, v2, v3, v4, v5] := by cases args; simp_all
  obtain ⟨rfl, rfl⟩ := trodVars_none hV
  obtain ⟨a0, rfl, rfl, rfl, hw0⟩ := open_int Try.underlying3 (hval 0 3 v0 rfl rfl) h0
  obtain ⟨a1, len1, cap1, rfl⟩ := okWide_slice Try.underlying88 (hval 1 88 v1 rfl rfl)
  have k1 := h1
  have lt1 : ∀ x ∈ p1, x.block < W.heap.size := by obtain ⟨m, hm⟩ := k1; exact DataW.trod_lt m _ _ _ hm
  obtain ⟨fuel1, hf1⟩ := h1
  obtain ⟨y1, hK1, hw1, hb1_⟩ := (Reads.Kin.slice Try.underlying88 (by kernel_rfl) (show Try.prog.bytesOf 5 = 1 from by kernel_rfl) (Reads.Kin.int Try.underlying5)) enc W _ _ _ fuel1 _ _ hf1 (Reads.Light.arg hsz (j := 1) (t := 88) rfl rfl)
  obtain ⟨A1, c1, e1, hc1, hr1⟩ := hK1
  simp only [Value.cells, List.cons.injEq, Value.slice.injEq, and_true] at e1
  obtain ⟨rfl, rfl, rfl⟩ := e1
  obtain ⟨a2, rfl, rfl, rfl, hw2⟩ := open_int Try.underlying3 (hval 2 3 v2 rfl rfl) h2
  obtain ⟨a3, rfl, rfl, rfl, hw3⟩ := open_int Try.underlying3 (hval 3 3 v3 rfl rfl) h3
  obtain ⟨a4, len4, cap4, rfl⟩ := okWide_slice Try.underlying22 (hval 4 22 v4 rfl rfl)
  have k4 := h4
  have lt4 : ∀ x ∈ p4, x.block < W.heap.size := by obtain ⟨m, hm⟩ := k4; exact DataW.trod_lt m _ _ _ hm
  obtain ⟨fuel4, hf4⟩ := h4
  obtain ⟨y4, hK4, hw4, hb4_⟩ := (Reads.Kin.slice Try.underlying22 (by kernel_rfl) (show Try.prog.bytesOf 174 = 24 from by kernel_rfl) kin174) enc W _ _ _ fuel4 _ _ hf4 (Reads.Light.arg hsz (j := 4) (t := 22) rfl rfl)
  obtain ⟨A4, c4, e4, hc4, hr4⟩ := hK4
  simp only [Value.cells, List.cons.injEq, Value.slice.injEq, and_true] at e4
  obtain ⟨rfl, rfl, rfl⟩ := e4
  obtain ⟨a5, len5, cap5, rfl⟩ := okWide_slice Try.underlying166 (hval 5 166 v5 rfl rfl)
  have k5 := h5
  have lt5 : ∀ x ∈ p5, x.block < W.heap.size := by obtain ⟨m, hm⟩ := k5; exact DataW.trod_lt m _ _ _ hm
  obtain ⟨fuel5, hf5⟩ := h5
  obtain ⟨y5, hK5, hw5, hb5_⟩ := (Reads.Kin.slice Try.underlying166 (by kernel_rfl) (show Try.prog.bytesOf 171 = 8 from by kernel_rfl) kin171) enc W _ _ _ fuel5 _ _ hf5 (Reads.Light.arg hsz (j := 5) (t := 166) rfl rfl)
  obtain ⟨A5, c5, e5, hc5, hr5⟩ := hK5
  simp only [Value.cells, List.cons.injEq, Value.slice.injEq, and_true] at e5
  obtain ⟨rfl, rfl, rfl⟩ := e5
  clear hA0 hval0
  refine (Q.foghornlaw11_FeedbackReach.walk Pure.FeedbackReach a0 _ _ y1 a2 a3 _ _ y4 _ _ y5 W  hr1 hc1   hr4 hc4 hr5 hc5 hw0 hw1 hw2 hw3 hw4 hw5).mono fun e W' ⟨he, bel⟩ => ?_
  subst he
  exact ⟨_, rfl, _, _, _, [], _, [], hW', trodAll_mk1 (shut_bool Try.underlying4 _), (trodAll_cons_mk (shut_int Try.underlying3 hw0) (trodAll_cons_mk (Below.trod laidOut (by kernel_rfl) (of_decide_eq_true (by kernel_rfl)) k1 bel lt1) (trodAll_cons_mk (shut_int Try.underlying3 hw2) (trodAll_cons_mk (shut_int Try.underlying3 hw3) (trodAll_cons_mk (Below.trod laidOut (by kernel_rfl) (of_decide_eq_true (by kernel_rfl)) k4 bel lt4) (trodAll_cons_mk (Below.trod laidOut (by kernel_rfl) (of_decide_eq_true (by kernel_rfl)) k5 bel lt5) trodAll_mk0)))))), rfl, bel.frame _, fun h => by cases h⟩
theorem closed : joinedFacts Try.pinned.checked.prog 22 Try.f22 Rows.feedbackReachSpec Rows.feedbackReachRow = true := by
  unfold joinedFacts
  rw [Facts.laid, Facts.rowed, Facts.keys, Facts.heard, Facts.enters, Facts.lifts, Facts.makes]
  kernel_rfl
theorem over : Rows.feedbackReachRow.holds Try.pinned (OpenSpec.ofChange Rows.feedbackReachSpec) :=
  OpenClaim.holds_of_wide 22 Try.f22 rfl rfl rfl rfl rfl rfl rfl ⟨rfl, rfl, rfl, rfl, rfl⟩ rfl rfl rfl rfl rfl (by kernel_rfl) Try.func22 closed
    (of_decide_eq_true (by kernel_rfl)) (by unfold Func.isWrapper; first | (rw [if_pos (by decide +kernel)]; kernel_rfl) | (rw [if_neg (by decide +kernel)]; exact ⟨rfl, rfl⟩))
    (fun os started H enc _ => lifted os started H enc)
theorem proved : Rows.FeedbackReachSaid := over
#print axioms proved
end Go.Proofs.Ythfcafllcgjepaa.feedbackReach
namespace Go.Proofs.Ythfcafllcgjepaa
/-- The row, under a short name, for the claim. -/
theorem feedbackReach_holds : Rows.FeedbackReachSaid := feedbackReach.proved
end Go.Proofs.Ythfcafllcgjepaa
