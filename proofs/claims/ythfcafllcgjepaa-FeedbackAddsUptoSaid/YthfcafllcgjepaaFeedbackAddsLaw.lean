import Derived.Test.YthfcafllcgjepaaRows
import Derived.Test.YthfcafllcgjepaaFacts
import Derived.Test.YthfcafllcgjepaaFeedbackAddsReads
import Derived.Test.YthfcafllcgjepaaFeedbackAddsQ7
import Derived.Test.YthfcafllcgjepaaFeedbackAddsPureFeedbackAdds
import Derived.WalkKit
import Derived.ProofKit
import Derived.OpenShut
import Derived.ShutString
import Derived.ChangeOld
import Derived.Below
import Derived.SizedLaws
import Derived.Carry
import Derived.JoinedCond
import Derived.Deep.CondSized
-- Printed by myprint.py (ours): the row of the law foghornlaw11_FeedbackAdds, out of its Pure and the printed walk.
namespace Go.Proofs.Ythfcafllcgjepaa.feedbackAdds
open Go.ChangeShapes Go.WideShapes Go.ChangeAt Go.RowKit Go.Proofs.YthfcafllcgjepaaW.PrintWords Go.Proofs.Ythfcafllcgjepaa.Q
open Go.ChangeMaps (open_string shut_string)
set_option linter.unusedVariables false
set_option linter.unusedSimpArgs false
theorem own : ownKnob Try.prog.godebug = none := by kernel_rfl
theorem laidOut : laidOutB Try.prog = true := by kernel_rfl
set_option maxRecDepth 100000 in
theorem kin174 : Reads.Kin k174 (fun y_ : S174 => ((Lit.int .i64 y_.f0).wf = true) ∧ ((Lit.int .i64 y_.f1).wf = true) ∧ (True)) (fun y_ : S174 => (1 + 1 + 1 + 1)) Try.prog 174 := by
  intro H enc w base spare held fuel cs x h hL_
  obtain ⟨xs, n, _, rfl, hcl, hxl, hg⟩ := DataW.trod_struct Try.underlying174 h
  have hcl' : cs.length = 3 := hcl.trans (by kernel_rfl)
  have hxl' : xs.length = 3 := hxl
  match cs, hcl', xs, hxl' with
  | [c0, c1, c2], _, [x0, x1, x2], _ =>
    have g0 := hg 0 _ rfl
    obtain ⟨y0, hK0, hW0, hS0⟩ := Reads.field_of (Reads.Kin.int Try.underlying2) 0 g0 Try.underlying174 hL_ rfl rfl
    have g1 := hg 1 _ rfl
    obtain ⟨y1, hK1, hW1, hS1⟩ := Reads.field_of (Reads.Kin.int Try.underlying2) 1 g1 Try.underlying174 hL_ rfl rfl
    have g2 := hg 2 _ rfl
    obtain ⟨y2, hK2, hW2, hS2⟩ := Reads.field_of (Reads.Kin.bool Try.underlying4) 2 g2 Try.underlying174 hL_ rfl rfl
    replace hK0 : Kd.K (Kd.int .i64) w y0 [c0] := hK0
    replace hK1 : Kd.K (Kd.int .i64) w y1 [c1] := hK1
    replace hK2 : Kd.K Kd.bool w y2 [c2] := hK2
    refine ⟨⟨y0, y1, y2⟩, ⟨[c0], [c1, c2], rfl, hK0, ⟨[c1], [c2], rfl, hK1, hK2⟩⟩, ⟨hW0, hW1, hW2⟩, ?_⟩
    refine Nat.le_trans (Nat.add_le_add_right (Nat.add_le_add (Nat.add_le_add hS0 hS1) hS2) 1) ?_
    simp only [List.map_cons, List.map_nil, Rows.uptoBulk, Rows.uptoBulkAll]
    omega
set_option maxRecDepth 100000 in
theorem kin146 : Reads.Kin k146 (fun y_ : S146 => ((Lit.int .i32 y_.f0).wf = true) ∧ ((Lit.int .i32 y_.f1).wf = true) ∧ (True)) (fun y_ : S146 => (1 + 1 + 1 + 1)) Try.prog 146 := by
  intro H enc w base spare held fuel cs x h hL_
  obtain ⟨xs, n, _, rfl, hcl, hxl, hg⟩ := DataW.trod_struct Try.underlying146 h
  have hcl' : cs.length = 3 := hcl.trans (by kernel_rfl)
  have hxl' : xs.length = 3 := hxl
  match cs, hcl', xs, hxl' with
  | [c0, c1, c2], _, [x0, x1, x2], _ =>
    have g0 := hg 0 _ rfl
    obtain ⟨y0, hK0, hW0, hS0⟩ := Reads.field_of (Reads.Kin.int Try.underlying21) 0 g0 Try.underlying146 hL_ rfl rfl
    have g1 := hg 1 _ rfl
    obtain ⟨y1, hK1, hW1, hS1⟩ := Reads.field_of (Reads.Kin.int Try.underlying21) 1 g1 Try.underlying146 hL_ rfl rfl
    have g2 := hg 2 _ rfl
    obtain ⟨y2, hK2, hW2, hS2⟩ := Reads.field_of (Reads.Kin.bool Try.underlying4) 2 g2 Try.underlying146 hL_ rfl rfl
    replace hK0 : Kd.K (Kd.int .i32) w y0 [c0] := hK0
    replace hK1 : Kd.K (Kd.int .i32) w y1 [c1] := hK1
    replace hK2 : Kd.K Kd.bool w y2 [c2] := hK2
    refine ⟨⟨y0, y1, y2⟩, ⟨[c0], [c1, c2], rfl, hK0, ⟨[c1], [c2], rfl, hK1, hK2⟩⟩, ⟨hW0, hW1, hW2⟩, ?_⟩
    refine Nat.le_trans (Nat.add_le_add_right (Nat.add_le_add (Nat.add_le_add hS0 hS1) hS2) 1) ?_
    simp only [List.map_cons, List.map_nil, Rows.uptoBulk, Rows.uptoBulkAll]
    omega
set_option maxRecDepth 100000 in
theorem lifted (os : Os) (started : os.Started) (H : Type) (enc : TypeId × Value → H) (F : Stop.Interp) :
    ReturnsInHanded {} Try.checked os 21 .any ((Rows.OpenSpec.upto Rows.feedbackAddsSpec).pre6 enc Try.prog Try.f21 Rows.feedbackAddsUptoRow.domain false) (((Rows.OpenSpec.upto Rows.feedbackAddsSpec).at F).post enc Try.prog Try.f21 false true false false) := by
  refine returnsInHanded_of_cond_sized (C := Try.checked) (s := Rows.OpenSpec.upto Rows.feedbackAddsSpec) (k := Rows.uptoSmall) rfl own started (by kernel_rfl) Try.func21
    (OpenSpec.witness (enc := enc) (C := Try.checked) (s := Rows.OpenSpec.upto Rows.feedbackAddsSpec) (k := Rows.uptoSmall) rfl false ⟨#[], #[.int .i64 0, .int .i64 0, .slice none 0 0, .slice none 0 0, .slice none 0 0, .int .i64 0], []⟩ 8 (by kernel_rfl) (by kernel_rfl) (by kernel_rfl)
      (x := ([.lit (.int .i64 0), .lit (.int .i64 0), .nil, .nil, .nil, .lit (.int .i64 0)], [], [])) (by kernel_rfl) rfl (by kernel_rfl)) ?_
  intro W base args ds gs before hval0 hW hcnd hk_ hsz0 _
  have hval : ∀ (j : Nat) t v, Try.f21.params[j]? = some t → args[j]? = some v → Value.okWide Try.prog W .any base t v := hval0
  have hW' := hW
  obtain ⟨p, q, hA0, hV, rfl, hfz, hnd⟩ := hW
  have hA : DataW.TrodAll enc Try.prog W 0 (fun _ => true) true Try.f21.params.toList args.toList ds p := hA0
  have hsz : (DataW.weightsEach Try.prog (Try.f21.params.toList ++ Rows.feedbackAddsSpec.plain.varTypes Try.prog) (ds ++ gs)).all (· ≤ reachBytes) = true := hsz0
  rw [Try.params21] at hA hval hsz
  obtain ⟨v0, vs0, d0, ds0, p0, q0, hargs, rfl, rfl, h0, r0⟩ := trodAll_cons hA
  obtain ⟨v1, vs1, d1, ds1, p1, q1, rfl, rfl, rfl, h1, r1⟩ := trodAll_cons r0
  obtain ⟨v2, vs2, d2, ds2, p2, q2, rfl, rfl, rfl, h2, r2⟩ := trodAll_cons r1
  obtain ⟨v3, vs3, d3, ds3, p3, q3, rfl, rfl, rfl, h3, r3⟩ := trodAll_cons r2
  obtain ⟨v4, vs4, d4, ds4, p4, q4, rfl, rfl, rfl, h4, r4⟩ := trodAll_cons r3
  obtain ⟨v5, vs5, d5, ds5, p5, q5, rfl, rfl, rfl, h5, r5⟩ := trodAll_cons r4
  obtain ⟨rfl, rfl, rfl⟩ := trodAll_nil r5
  obtain rfl : args = #[v0, v1, v2, v3, v4, v5] := by cases args; simp_all
  obtain ⟨rfl, rfl⟩ := trodVars_none hV
  obtain ⟨a0, rfl, rfl, rfl, hw0⟩ := open_int Try.underlying3 (hval 0 3 v0 rfl rfl) h0
  obtain ⟨a1, rfl, rfl, rfl, hw1⟩ := open_int Try.underlying3 (hval 1 3 v1 rfl rfl) h1
  obtain ⟨a2, len2, cap2, rfl⟩ := okWide_slice Try.underlying22 (hval 2 22 v2 rfl rfl)
  have k2 := h2
  have lt2 : ∀ x ∈ p2, x.block < W.heap.size := by obtain ⟨m, hm⟩ := k2; exact DataW.trod_lt m _ _ _ hm
  obtain ⟨fuel2, hf2⟩ := h2
  obtain ⟨y2, hK2, hw2, hb2_⟩ := (Reads.Kin.slice Try.underlying22 (by kernel_rfl) (show Try.prog.bytesOf 174 = 24 from by kernel_rfl) kin174) enc W _ _ _ fuel2 _ _ hf2 (Reads.Light.arg hsz (j := 2) (t := 22) rfl rfl)
  obtain ⟨A2, c2, e2, hc2, hr2⟩ := hK2
  simp only [Value.cells, List.cons.injEq, Value.slice.injEq, and_true] at e2
  obtain ⟨rfl, rfl, rfl⟩ := e2
  obtain ⟨a3, len3, cap3, rfl⟩ := okWide_slice Try.underlying23 (hval 3 23 v3 rfl rfl)
  have k3 := h3
  have lt3 : ∀ x ∈ p3, x.block < W.heap.size := by obtain ⟨m, hm⟩ := k3; exact DataW.trod_lt m _ _ _ hm
  obtain ⟨fuel3, hf3⟩ := h3
  obtain ⟨y3, hK3, hw3, hb3_⟩ := (Reads.Kin.slice Try.underlying23 (by kernel_rfl) (show Try.prog.bytesOf 146 = 12 from by kernel_rfl) kin146) enc W _ _ _ fuel3 _ _ hf3 (Reads.Light.arg hsz (j := 3) (t := 23) rfl rfl)
  obtain ⟨A3, c3, e3, hc3, hr3⟩ := hK3
  simp only [Value.cells, List.cons.injEq, Value.slice.injEq, and_true] at e3
  obtain ⟨rfl, rfl, rfl⟩ := e3
  obtain ⟨a4, len4, cap4, rfl⟩ := okWide_slice Try.underlying23 (hval 4 23 v4 rfl rfl)
  have k4 := h4
  have lt4 : ∀ x ∈ p4, x.block < W.heap.size := by obtain ⟨m, hm⟩ := k4; exact DataW.trod_lt m _ _ _ hm
  obtain ⟨fuel4, hf4⟩ := h4
  obtain ⟨y4, hK4, hw4, hb4_⟩ := (Reads.Kin.slice Try.underlying23 (by kernel_rfl) (show Try.prog.bytesOf 146 = 12 from by kernel_rfl) kin146) enc W _ _ _ fuel4 _ _ hf4 (Reads.Light.arg hsz (j := 4) (t := 23) rfl rfl)
  obtain ⟨A4, c4, e4, hc4, hr4⟩ := hK4
  simp only [Value.cells, List.cons.injEq, Value.slice.injEq, and_true] at e4
  obtain ⟨rfl, rfl, rfl⟩ := e4
  obtain ⟨a5, rfl, rfl, rfl, hw5⟩ := open_int Try.underlying3 (hval 5 3 v5 rfl rfl) h5
  have hkk_ : 1 + 1 + ((y2.map (fun y_ : S174 => (1 + 1 + 1 + 1))).sum + 1) + ((y3.map (fun y_ : S146 => (1 + 1 + 1 + 1))).sum + 1) + ((y4.map (fun y_ : S146 => (1 + 1 + 1 + 1))).sum + 1) + 1 ≤ 1048576 := by
    have h_ := of_decide_eq_true hk_
    simp only [List.cons_append, List.nil_append, List.append_nil, Rows.uptoBulkAll] at h_
    have ho0_ := Reads.one_le (H := H) (.lit (.int .i64 a0))
    have ho1_ := Reads.one_le (H := H) (.lit (.int .i64 a1))
    have ho5_ := Reads.one_le (H := H) (.lit (.int .i64 a5))
    have hc2_ : ((y2.map (fun y_ : S174 => (1 + 1 + 1 + 1))).sum + 1) ≤ Rows.uptoBulk d2 := hb2_
    have hc3_ : ((y3.map (fun y_ : S146 => (1 + 1 + 1 + 1))).sum + 1) ≤ Rows.uptoBulk d3 := hb3_
    have hc4_ : ((y4.map (fun y_ : S146 => (1 + 1 + 1 + 1))).sum + 1) ≤ Rows.uptoBulk d4 := hb4_
    omega
  clear hA0 hval0
  refine (Q.foghornlaw11_FeedbackAdds.walk Pure.FeedbackAdds a0 a1 _ _ y2 _ _ y3 _ _ y4 a5 W   hr2 hc2 hr3 hc3 hr4 hc4  hw0 hw1 hw2 hw3 hw4 hw5 hkk_).mono fun e W' ⟨he, bel⟩ => ?_
  subst he
  exact ⟨_, rfl, _, _, _, [], _, [], hW', trodAll_mk1 (shut_bool Try.underlying4 _), (trodAll_cons_mk (shut_int Try.underlying3 hw0) (trodAll_cons_mk (shut_int Try.underlying3 hw1) (trodAll_cons_mk (Below.trod laidOut (by kernel_rfl) (of_decide_eq_true (by kernel_rfl)) k2 bel lt2) (trodAll_cons_mk (Below.trod laidOut (by kernel_rfl) (of_decide_eq_true (by kernel_rfl)) k3 bel lt3) (trodAll_cons_mk (Below.trod laidOut (by kernel_rfl) (of_decide_eq_true (by kernel_rfl)) k4 bel lt4) (trodAll_cons_mk (shut_int Try.underlying3 hw5) trodAll_mk0)))))), rfl, bel.frame _, fun h => by cases h⟩
theorem closed : joinedFacts Try.pinned.checked.prog 21 Try.f21 (Rows.OpenSpec.upto Rows.feedbackAddsSpec).bare Rows.feedbackAddsUptoRow = true := by
  unfold joinedFacts
  rw [Facts.laid, Facts.rowed, Facts.keys, Facts.heard, Facts.enters, Facts.lifts, Facts.makes]
  kernel_rfl
theorem over : Rows.feedbackAddsUptoRow.holds Try.pinned (Rows.OpenSpec.upto Rows.feedbackAddsSpec) :=
  OpenClaim.holds_of_cond 21 Try.f21 rfl rfl rfl rfl rfl rfl rfl ⟨rfl, rfl, rfl, rfl, rfl⟩ rfl rfl rfl rfl rfl (by kernel_rfl) Try.func21 closed
    (of_decide_eq_true (by kernel_rfl)) (by unfold Func.isWrapper; first | (rw [if_pos (by decide +kernel)]; kernel_rfl) | (rw [if_neg (by decide +kernel)]; exact ⟨rfl, rfl⟩))
    (fun os started H enc _ F => lifted os started H enc F)
theorem proved : Rows.FeedbackAddsUptoSaid := over
#print axioms proved
end Go.Proofs.Ythfcafllcgjepaa.feedbackAdds
namespace Go.Proofs.Ythfcafllcgjepaa
/-- The row, under a short name, for the claim. -/
theorem feedbackAdds_holds : Rows.FeedbackAddsUptoSaid := feedbackAdds.proved
end Go.Proofs.Ythfcafllcgjepaa
