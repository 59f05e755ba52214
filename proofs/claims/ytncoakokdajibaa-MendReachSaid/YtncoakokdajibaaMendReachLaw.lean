import Derived.Test.YtncoakokdajibaaRows
import Derived.Test.YtncoakokdajibaaFacts
import Derived.Test.YtncoakokdajibaaMendReachReads
import Derived.Test.YtncoakokdajibaaMendReachQ7
import Derived.Test.YtncoakokdajibaaMendReachPureMendReach
import Derived.WalkKit
import Derived.ProofKit
import Derived.OpenShut
import Derived.ShutString
import Derived.ChangeOld
import Derived.Below
import Derived.SizedLaws
import Derived.Carry
import Derived.JoinedCond
import Derived.Deep.CondSized
-- Printed by myprint.py (ours): the row of the law foghornlaw20_MendReach, out of its Pure and the printed walk.
namespace Go.Proofs.Ytncoakokdajibaa.mendReach
open Go.ChangeShapes Go.WideShapes Go.ChangeAt Go.RowKit Go.Proofs.YtncoakokdajibaaW.PrintWords Go.Proofs.Ytncoakokdajibaa.Q
open Go.ChangeMaps (open_string shut_string)
set_option linter.unusedVariables false
set_option linter.unusedSimpArgs false
theorem own : ownKnob Try.prog.godebug = none := by kernel_rfl
theorem laidOut : laidOutB Try.prog = true := by kernel_rfl
set_option maxRecDepth 100000 in
theorem kin62 : Reads.Kin k62 (fun y_ : S62 => ((Lit.int .i64 y_.f0).wf = true) ∧ (True) ∧ ((Lit.int .u8 y_.f2).wf = true)) (fun y_ : S62 => (1 + 1 + 1 + 1)) Try.prog 62 := by
  intro H enc w base spare held fuel cs x h hL_
  obtain ⟨xs, n, _, rfl, hcl, hxl, hg⟩ := DataW.trod_struct Try.underlying62 h
  have hcl' : cs.length = 3 := hcl.trans (by kernel_rfl)
  have hxl' : xs.length = 3 := hxl
  match cs, hcl', xs, hxl' with
  | [c0, c1, c2], _, [x0, x1, x2], _ =>
    have g0 := hg 0 _ rfl
    obtain ⟨y0, hK0, hW0, hS0⟩ := Reads.field_of (Reads.Kin.int Try.underlying3) 0 g0 Try.underlying62 hL_ rfl rfl
    have g1 := hg 1 _ rfl
    obtain ⟨y1, hK1, hW1, hS1⟩ := Reads.field_of (Reads.Kin.bool Try.underlying4) 1 g1 Try.underlying62 hL_ rfl rfl
    have g2 := hg 2 _ rfl
    obtain ⟨y2, hK2, hW2, hS2⟩ := Reads.field_of (Reads.Kin.int Try.underlying5) 2 g2 Try.underlying62 hL_ rfl rfl
    replace hK0 : Kd.K (Kd.int .i64) w y0 [c0] := hK0
    replace hK1 : Kd.K Kd.bool w y1 [c1] := hK1
    replace hK2 : Kd.K (Kd.int .u8) w y2 [c2] := hK2
    refine ⟨⟨y0, y1, y2⟩, ⟨[c0], [c1, c2], rfl, hK0, ⟨[c1], [c2], rfl, hK1, hK2⟩⟩, ⟨hW0, hW1, hW2⟩, ?_⟩
    refine Nat.le_trans (Nat.add_le_add_right (Nat.add_le_add (Nat.add_le_add hS0 hS1) hS2) 1) ?_
    simp only [List.map_cons, List.map_nil, Rows.uptoBulk, Rows.uptoBulkAll]
    omega
set_option maxRecDepth 100000 in
theorem lifted (os : Os) (started : os.Started) (H : Type) (enc : TypeId × Value → H) :
    ReturnsInHanded {} Try.checked os 11 .any (Rows.mendReachSpec.pre6 enc Try.prog Try.f11 Rows.mendReachRow.domain false) (Rows.mendReachSpec.post enc Try.prog Try.f11 false true false false) := by
  refine returnsInHanded_of_change_sized (C := Try.checked) own started (by kernel_rfl) Try.func11
    (ChangeSpec.witness6 (enc := enc) (C := Try.checked) false ⟨#[], #[.string ByteArray.empty, .int .i64 0, .slice none 0 0], []⟩ 8 (by kernel_rfl) (by kernel_rfl) (by kernel_rfl) (by kernel_rfl)) ?_
  intro W base args ds gs before hval0 hW hcnd hsz0 _
  have hval : ∀ (j : Nat) t v, Try.f11.params[j]? = some t → args[j]? = some v → Value.okWide Try.prog W .any base t v := hval0
  have hW' := hW
  obtain ⟨p, q, hA0, hV, rfl, hfz, hnd⟩ := hW
  have hA : DataW.TrodAll enc Try.prog W 0 (fun _ => true) true Try.f11.params.toList args.toList ds p := hA0
  have hsz : (DataW.weightsEach Try.prog (Try.f11.params.toList ++ Rows.mendReachSpec.plain.varTypes Try.prog) (ds ++ gs)).all (· ≤ reachBytes) = true := hsz0
  rw [Try.params11] at hA hval hsz
  obtain ⟨v0, vs0, d0, ds0, p0, q0, hargs, rfl, rfl, h0, r0⟩ := trodAll_cons hA
  obtain ⟨v1, vs1, d1, ds1, p1, q1, rfl, rfl, rfl, h1, r1⟩ := trodAll_cons r0
  obtain ⟨v2, vs2, d2, ds2, p2, q2, rfl, rfl, rfl, h2, r2⟩ := trodAll_cons r1
  obtain ⟨rfl, rfl, rfl⟩ := trodAll_nil r2
  obtain rfl : args = #[v0, v1, v2] := by cases args; simp_all
  obtain ⟨rfl, rfl⟩ := trodVars_none hV
  obtain ⟨a0, rfl, rfl, rfl, hy0⟩ := open_string Try.underlying9 (hval 0 9 v0 rfl rfl) h0
  have hw0 : a0.size ≤ 140737488351232 := by
    have z := sized_string hsz (j := 0) (t := 9) rfl rfl
    rw [Array.length_toList] at z
    exact z
  obtain ⟨a1, rfl, rfl, rfl, hw1⟩ := open_int Try.underlying3 (hval 1 3 v1 rfl rfl) h1
  obtain ⟨a2, len2, cap2, rfl⟩ := okWide_slice Try.underlying59 (hval 2 59 v2 rfl rfl)
  have k2 := h2
  have lt2 : ∀ x ∈ p2, x.block < W.heap.size := by obtain ⟨m, hm⟩ := k2; exact DataW.trod_lt m _ _ _ hm
  obtain ⟨fuel2, hf2⟩ := h2
  obtain ⟨y2, hK2, hw2, hb2_⟩ := (Reads.Kin.slice Try.underlying59 (by kernel_rfl) (show Try.prog.bytesOf 62 = 16 from by kernel_rfl) kin62) enc W _ _ _ fuel2 _ _ hf2 (Reads.Light.arg hsz (j := 2) (t := 59) rfl rfl)
  obtain ⟨A2, c2, e2, hc2, hr2⟩ := hK2
  simp only [Value.cells, List.cons.injEq, Value.slice.injEq, and_true] at e2
  obtain ⟨rfl, rfl, rfl⟩ := e2
  clear hA0 hval0
  refine (Q.foghornlaw20_MendReach.walk Pure.MendReach a0 a1 _ _ y2 W   hr2 hc2 hw0 hw1 hw2).mono fun e W' ⟨he, bel⟩ => ?_
  subst he
  exact ⟨_, rfl, _, _, _, [], _, [], hW', trodAll_mk1 (shut_bool Try.underlying4 _), (trodAll_cons_mk (shut_string Try.underlying9 hy0) (trodAll_cons_mk (shut_int Try.underlying3 hw1) (trodAll_cons_mk (Below.trod laidOut (by kernel_rfl) (of_decide_eq_true (by kernel_rfl)) k2 bel lt2) trodAll_mk0))), rfl, bel.frame _, fun h => by cases h⟩
theorem closed : joinedFacts Try.pinned.checked.prog 11 Try.f11 Rows.mendReachSpec Rows.mendReachRow = true := by
  unfold joinedFacts
  rw [Facts.laid, Facts.rowed, Facts.keys, Facts.heard, Facts.enters, Facts.lifts, Facts.makes]
  kernel_rfl
theorem over : Rows.mendReachRow.holds Try.pinned (OpenSpec.ofChange Rows.mendReachSpec) :=
  OpenClaim.holds_of_wide 11 Try.f11 rfl rfl rfl rfl rfl rfl rfl ⟨rfl, rfl, rfl, rfl, rfl⟩ rfl rfl rfl rfl rfl (by kernel_rfl) Try.func11 closed
    (of_decide_eq_true (by kernel_rfl)) (by unfold Func.isWrapper; first | (rw [if_pos (by decide +kernel)]; kernel_rfl) | (rw [if_neg (by decide +kernel)]; exact ⟨rfl, rfl⟩))
    (fun os started H enc _ => lifted os started H enc)
theorem proved : Rows.MendReachSaid := over
#print axioms proved
end Go.Proofs.Ytncoakokdajibaa.mendReach
namespace Go.Proofs.Ytncoakokdajibaa
/-- The row, under a short name, for the claim. -/
theorem mendReach_holds : Rows.MendReachSaid := mendReach.proved
end Go.Proofs.Ytncoakokdajibaa
