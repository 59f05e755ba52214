import Derived.Test.YtncoakokdajibaaRows
import Derived.Test.YtncoakokdajibaaReedMessagesReads
import Derived.Test.YtncoakokdajibaaReedMessagesQ6
import Derived.Test.YtncoakokdajibaaReedMessagesPureReedMessages
import Derived.WalkKit
import Derived.ProofKit
import Derived.OpenShut
import Derived.ShutString
import Derived.ChangeOld
import Derived.Below
import Derived.SizedLaws
import Derived.Carry
import Derived.JoinedCond
import Derived.Deep.CondSized
-- Printed by myprint.py (ours): the row of the law foghornlaw19_ReedMessages, out of its Pure and the printed walk.
namespace Go.Proofs.Ytncoakokdajibaa.reedMessages
open Go.ChangeShapes Go.WideShapes Go.ChangeAt Go.RowKit Go.Proofs.YtncoakokdajibaaW.PrintWords Go.Proofs.Ytncoakokdajibaa.Q
open Go.ChangeMaps (open_string shut_string)
set_option linter.unusedVariables false
set_option linter.unusedSimpArgs false
theorem own : ownKnob Try.prog.godebug = none := by kernel_rfl
theorem laidOut : laidOutB Try.prog = true := by kernel_rfl
set_option maxRecDepth 100000 in
theorem lifted (os : Os) (started : os.Started) (H : Type) (enc : TypeId × Value → H) (F : Stop.Interp) :
    ReturnsInHanded {} Try.checked os 8 .any ((Rows.OpenSpec.upto Rows.reedMessagesSpec).pre6 enc Try.prog Try.f8 Rows.reedMessagesUptoRow.domain false) (((Rows.OpenSpec.upto Rows.reedMessagesSpec).at F).post enc Try.prog Try.f8 false true false false) := by
  refine returnsInHanded_of_cond_sized (C := Try.checked) (s := Rows.OpenSpec.upto Rows.reedMessagesSpec) (k := Rows.uptoSmall) rfl own started (by kernel_rfl) Try.func8
    (OpenSpec.witness (enc := enc) (C := Try.checked) (s := Rows.OpenSpec.upto Rows.reedMessagesSpec) (k := Rows.uptoSmall) rfl false ⟨#[], #[.string ByteArray.empty, .int .i64 0, .int .i64 0, .slice none 0 0], []⟩ 8 (by kernel_rfl) (by kernel_rfl) (by kernel_rfl)
      (x := ([.lit (.string []), .lit (.int .i64 0), .lit (.int .i64 0), .nil], [], [])) (by kernel_rfl) rfl (by kernel_rfl)) ?_
  intro W base args ds gs before hval0 hW hcnd hk_ hsz0 _
  have hval : ∀ (j : Nat) t v, Try.f8.params[j]? = some t → args[j]? = some v → Value.okWide Try.prog W .any base t v := hval0
  have hW' := hW
  obtain ⟨p, q, hA0, hV, rfl, hfz, hnd⟩ := hW
  have hA : DataW.TrodAll enc Try.prog W 0 (fun _ => true) true Try.f8.params.toList args.toList ds p := hA0
  have hsz : (DataW.weightsEach Try.prog (Try.f8.params.toList ++ Rows.reedMessagesSpec.plain.varTypes Try.prog) (ds ++ gs)).all (· ≤ reachBytes) = true := hsz0
  rw [Try.params8] at hA hval hsz
  obtain ⟨v0, vs0, d0, ds0, p0, q0, hargs, rfl, rfl, h0, r0⟩ := trodAll_cons hA
  obtain ⟨v1, vs1, d1, ds1, p1, q1, rfl, rfl, rfl, h1, r1⟩ := trodAll_cons r0
  obtain ⟨v2, vs2, d2, ds2, p2, q2, rfl, rfl, rfl, h2, r2⟩ := trodAll_cons r1
  obtain ⟨v3, vs3, d3, ds3, p3, q3, rfl, rfl, rfl, h3, r3⟩ := trodAll_cons r2
  obtain ⟨rfl, rfl, rfl⟩ := trodAll_nil r3
  obtain rfl : args = #[v0, v1, v2, v3] := by cases args; simp_all
  obtain ⟨rfl, rfl⟩ := trodVars_none hV
  obtain ⟨a0, rfl, rfl, rfl, hy0⟩ := open_string Try.underlying9 (hval 0 9 v0 rfl rfl) h0
  have hw0 : a0.size ≤ 140737488351232 := by
    have z := sized_string hsz (j := 0) (t := 9) rfl rfl
    rw [Array.length_toList] at z
    exact z
  obtain ⟨a1, rfl, rfl, rfl, hw1⟩ := open_int Try.underlying3 (hval 1 3 v1 rfl rfl) h1
  obtain ⟨a2, rfl, rfl, rfl, hw2⟩ := open_int Try.underlying3 (hval 2 3 v2 rfl rfl) h2
  obtain ⟨a3, len3, cap3, rfl⟩ := okWide_slice Try.underlying41 (hval 3 41 v3 rfl rfl)
  have k3 := h3
  have lt3 : ∀ x ∈ p3, x.block < W.heap.size := by obtain ⟨m, hm⟩ := k3; exact DataW.trod_lt m _ _ _ hm
  obtain ⟨fuel3, hf3⟩ := h3
  obtain ⟨y3, hK3, hw3, hb3_⟩ := (Reads.Kin.slice Try.underlying41 (by kernel_rfl) (show Try.prog.bytesOf 9 = 16 from by kernel_rfl) (Reads.Kin.string Try.underlying9)) enc W _ _ _ fuel3 _ _ hf3 (Reads.Light.arg hsz (j := 3) (t := 41) rfl rfl)
  obtain ⟨A3, c3, e3, hc3, hr3⟩ := hK3
  simp only [Value.cells, List.cons.injEq, Value.slice.injEq, and_true] at e3
  obtain ⟨rfl, rfl, rfl⟩ := e3
  have hkk_ : (a0.size + 1) + 1 + 1 + ((y3.map (fun y_ : ByteArray => (y_.size + 1))).sum + 1) ≤ 1048576 := by
    have h_ := of_decide_eq_true hk_
    simp only [List.cons_append, List.nil_append, List.append_nil, Rows.uptoBulkAll] at h_
    have hs0_ : Rows.uptoBulk (H := H) (.lit (.string a0.data.toList)) = a0.size + 1 := by rw [Rows.uptoBulk, Array.length_toList]; rfl
    have ho1_ := Reads.one_le (H := H) (.lit (.int .i64 a1))
    have ho2_ := Reads.one_le (H := H) (.lit (.int .i64 a2))
    have hc3_ : ((y3.map (fun y_ : ByteArray => (y_.size + 1))).sum + 1) ≤ Rows.uptoBulk d3 := hb3_
    omega
  clear hA0 hval0
  refine (Q.foghornlaw19_ReedMessages.walk Pure.ReedMessages a0 a1 a2 _ _ y3 W    hr3 hc3 hw0 hw1 hw2 hw3 hkk_).mono fun e W' ⟨he, bel⟩ => ?_
  subst he
  exact ⟨_, rfl, _, _, _, [], _, [], hW', trodAll_mk1 (shut_bool Try.underlying4 _), (trodAll_cons_mk (shut_string Try.underlying9 hy0) (trodAll_cons_mk (shut_int Try.underlying3 hw1) (trodAll_cons_mk (shut_int Try.underlying3 hw2) (trodAll_cons_mk (Below.trod laidOut (by kernel_rfl) (of_decide_eq_true (by kernel_rfl)) k3 bel lt3) trodAll_mk0)))), rfl, bel.frame _, fun h => by cases h⟩
theorem over : Rows.reedMessagesUptoRow.holds Try.pinned (Rows.OpenSpec.upto Rows.reedMessagesSpec) :=
  OpenClaim.holds_of_cond 8 Try.f8 rfl rfl rfl rfl rfl rfl rfl ⟨rfl, rfl, rfl, rfl, rfl⟩ rfl rfl rfl rfl rfl (by kernel_rfl) Try.func8 (by kernel_rfl)
    (of_decide_eq_true (by kernel_rfl)) (by unfold Func.isWrapper; first | (rw [if_pos (by decide +kernel)]; kernel_rfl) | (rw [if_neg (by decide +kernel)]; exact ⟨rfl, rfl⟩))
    (fun os started H enc _ F => lifted os started H enc F)
theorem proved : Rows.ReedMessagesUptoSaid := over
#print axioms proved
end Go.Proofs.Ytncoakokdajibaa.reedMessages
namespace Go.Proofs.Ytncoakokdajibaa
/-- The row, under a short name, for the claim. -/
theorem reedMessages_holds : Rows.ReedMessagesUptoSaid := reedMessages.proved
end Go.Proofs.Ytncoakokdajibaa
