-- Printed by myprint.py (ours) over the kit's printer, out of the translation.
import Derived.Test.YtncoakokdajibaaReedWordsK0
import Derived.Test.YtncoakokdajibaaReedWordsF0
import Derived.Test.YtncoakokdajibaaReedWordsQ1
import Derived.Test.YtncoakokdajibaaReedWordsQ2
import Derived.Test.YtncoakokdajibaaReedWordsQ3
import Derived.Test.YtncoakokdajibaaReedWordsQ4
namespace Go.Proofs.Ytncoakokdajibaa.Q
open Go.RowKit Go.Proofs.YtncoakokdajibaaW.PrintWords Go.Proofs.YtncoakokdajibaaW.PrintLast Go.Proofs.YtncoakokdajibaaW.PrintMore
attribute [local go_sem] ArrW.ptrOf_slice max2_int min2_int max_two min_two max_three min_three max_four min_four   -- for this text's walks alone
set_option linter.unusedVariables false
set_option linter.unusedSimpArgs false

/-! ### foghornlaw19_ReedWords: function 6 -/
set_option maxHeartbeats 8000000 in
set_option maxRecDepth 100000 in
theorem foghornlaw19_ReedWords.calls (k : Nat) (a0 : ByteArray) (a1 : ByteArray) (a2 : ByteArray) (a3 : Int) (r : Bool) (w : World) (h : foghornlaw19_ReedWords.f k a0 a1 a2 a3 = some r) (hq_ : r = true) :
  Calls Try.prog 6 #[.string a0, .string a1, .string a2, .int .i64 a3] w fun e w' => e = .returned (.bool r) ∧ Below w.heap.size w w' := by
 have HQ_ := Aside0.mk hq_
 clear hq_
 have HB := Aside0.mk (Below.refl w.heap.size w)
 have H : ((reed_Encode.f k a0 a3).bind fun bt298 => ((foghornref19_Encode.f k a0 a3).bind fun bt300 => ((reed_Syndromes.f k a1 a3).bind fun bt302 => ((foghornref19_Syndromes.f k a1 a3).bind fun bt306 => ((reed_Whole.f k a1 a3).bind fun bt310 => ((foghornref19_Whole.f k a1 a3).bind fun bt312 => ((reed_Data.f k a1 a3).bind fun bt314 => ((foghornref19_Data.f k a1 a3).bind fun bt316 => (if bt298.1.toList = bt300.1.toList then (if bt298.2 = bt300.2 then ((foghornlaw19_sameBytes.f k bt302.1 bt306.1).bind fun t318 => (if t318 = true then (if bt302.2 = bt306.2 then (if (bt310.1 != bt312.1) = true then (foghornlaw19_ReedWords.j0 k a1 a2 a3 bt302.1 bt306.1 true) else (if bt310.2 = bt312.2 then (if bt314.1.toList = bt316.1.toList then (foghornlaw19_ReedWords.j0 k a1 a2 a3 bt302.1 bt306.1 (bt314.2 != bt316.2)) else (foghornlaw19_ReedWords.j0 k a1 a2 a3 bt302.1 bt306.1 true)) else (foghornlaw19_ReedWords.j0 k a1 a2 a3 bt302.1 bt306.1 true))) else (foghornlaw19_ReedWords.j0 k a1 a2 a3 bt302.1 bt306.1 true)) else (foghornlaw19_ReedWords.j0 k a1 a2 a3 bt302.1 bt306.1 true))) else (foghornlaw19_ReedWords.j0 k a1 a2 a3 bt302.1 bt306.1 true)) else (foghornlaw19_ReedWords.j0 k a1 a2 a3 bt302.1 bt306.1 true)))))))))) = some r := h
 clear h
 replace H := Option.bind_eq_some_iff.mp H
 obtain ⟨⟨t298, t299⟩, A50, H⟩ := H
 replace H : ((foghornref19_Encode.f k a0 a3).bind fun bt300 => ((reed_Syndromes.f k a1 a3).bind fun bt302 => ((foghornref19_Syndromes.f k a1 a3).bind fun bt306 => ((reed_Whole.f k a1 a3).bind fun bt310 => ((foghornref19_Whole.f k a1 a3).bind fun bt312 => ((reed_Data.f k a1 a3).bind fun bt314 => ((foghornref19_Data.f k a1 a3).bind fun bt316 => (if t298.toList = bt300.1.toList then (if t299 = bt300.2 then ((foghornlaw19_sameBytes.f k bt302.1 bt306.1).bind fun t318 => (if t318 = true then (if bt302.2 = bt306.2 then (if (bt310.1 != bt312.1) = true then (foghornlaw19_ReedWords.j0 k a1 a2 a3 bt302.1 bt306.1 true) else (if bt310.2 = bt312.2 then (if bt314.1.toList = bt316.1.toList then (foghornlaw19_ReedWords.j0 k a1 a2 a3 bt302.1 bt306.1 (bt314.2 != bt316.2)) else (foghornlaw19_ReedWords.j0 k a1 a2 a3 bt302.1 bt306.1 true)) else (foghornlaw19_ReedWords.j0 k a1 a2 a3 bt302.1 bt306.1 true))) else (foghornlaw19_ReedWords.j0 k a1 a2 a3 bt302.1 bt306.1 true)) else (foghornlaw19_ReedWords.j0 k a1 a2 a3 bt302.1 bt306.1 true))) else (foghornlaw19_ReedWords.j0 k a1 a2 a3 bt302.1 bt306.1 true)) else (foghornlaw19_ReedWords.j0 k a1 a2 a3 bt302.1 bt306.1 true))))))))) = some r := H
 have A5 := Aside0.mk A50
 clear A50
 replace H := Option.bind_eq_some_iff.mp H
 obtain ⟨⟨t300, t301⟩, A60, H⟩ := H
 replace H : ((reed_Syndromes.f k a1 a3).bind fun bt302 => ((foghornref19_Syndromes.f k a1 a3).bind fun bt306 => ((reed_Whole.f k a1 a3).bind fun bt310 => ((foghornref19_Whole.f k a1 a3).bind fun bt312 => ((reed_Data.f k a1 a3).bind fun bt314 => ((foghornref19_Data.f k a1 a3).bind fun bt316 => (if t298.toList = t300.toList then (if t299 = t301 then ((foghornlaw19_sameBytes.f k bt302.1 bt306.1).bind fun t318 => (if t318 = true then (if bt302.2 = bt306.2 then (if (bt310.1 != bt312.1) = true then (foghornlaw19_ReedWords.j0 k a1 a2 a3 bt302.1 bt306.1 true) else (if bt310.2 = bt312.2 then (if bt314.1.toList = bt316.1.toList then (foghornlaw19_ReedWords.j0 k a1 a2 a3 bt302.1 bt306.1 (bt314.2 != bt316.2)) else (foghornlaw19_ReedWords.j0 k a1 a2 a3 bt302.1 bt306.1 true)) else (foghornlaw19_ReedWords.j0 k a1 a2 a3 bt302.1 bt306.1 true))) else (foghornlaw19_ReedWords.j0 k a1 a2 a3 bt302.1 bt306.1 true)) else (foghornlaw19_ReedWords.j0 k a1 a2 a3 bt302.1 bt306.1 true))) else (foghornlaw19_ReedWords.j0 k a1 a2 a3 bt302.1 bt306.1 true)) else (foghornlaw19_ReedWords.j0 k a1 a2 a3 bt302.1 bt306.1 true)))))))) = some r := H
 have A6 := Aside0.mk A60
 clear A60
 replace H := Option.bind_eq_some_iff.mp H
 obtain ⟨⟨t302, t303⟩, A70, H⟩ := H
 replace H : ((foghornref19_Syndromes.f k a1 a3).bind fun bt306 => ((reed_Whole.f k a1 a3).bind fun bt310 => ((foghornref19_Whole.f k a1 a3).bind fun bt312 => ((reed_Data.f k a1 a3).bind fun bt314 => ((foghornref19_Data.f k a1 a3).bind fun bt316 => (if t298.toList = t300.toList then (if t299 = t301 then ((foghornlaw19_sameBytes.f k t302 bt306.1).bind fun t318 => (if t318 = true then (if t303 = bt306.2 then (if (bt310.1 != bt312.1) = true then (foghornlaw19_ReedWords.j0 k a1 a2 a3 t302 bt306.1 true) else (if bt310.2 = bt312.2 then (if bt314.1.toList = bt316.1.toList then (foghornlaw19_ReedWords.j0 k a1 a2 a3 t302 bt306.1 (bt314.2 != bt316.2)) else (foghornlaw19_ReedWords.j0 k a1 a2 a3 t302 bt306.1 true)) else (foghornlaw19_ReedWords.j0 k a1 a2 a3 t302 bt306.1 true))) else (foghornlaw19_ReedWords.j0 k a1 a2 a3 t302 bt306.1 true)) else (foghornlaw19_ReedWords.j0 k a1 a2 a3 t302 bt306.1 true))) else (foghornlaw19_ReedWords.j0 k a1 a2 a3 t302 bt306.1 true)) else (foghornlaw19_ReedWords.j0 k a1 a2 a3 t302 bt306.1 true))))))) = some r := H
 have A7 := Aside0.mk A70
 clear A70
 replace H := Option.bind_eq_some_iff.mp H
 obtain ⟨⟨t306, t307⟩, A80, H⟩ := H
 replace H : ((reed_Whole.f k a1 a3).bind fun bt310 => ((foghornref19_Whole.f k a1 a3).bind fun bt312 => ((reed_Data.f k a1 a3).bind fun bt314 => ((foghornref19_Data.f k a1 a3).bind fun bt316 => (if t298.toList = t300.toList then (if t299 = t301 then ((foghornlaw19_sameBytes.f k t302 t306).bind fun t318 => (if t318 = true then (if t303 = t307 then (if (bt310.1 != bt312.1) = true then (foghornlaw19_ReedWords.j0 k a1 a2 a3 t302 t306 true) else (if bt310.2 = bt312.2 then (if bt314.1.toList = bt316.1.toList then (foghornlaw19_ReedWords.j0 k a1 a2 a3 t302 t306 (bt314.2 != bt316.2)) else (foghornlaw19_ReedWords.j0 k a1 a2 a3 t302 t306 true)) else (foghornlaw19_ReedWords.j0 k a1 a2 a3 t302 t306 true))) else (foghornlaw19_ReedWords.j0 k a1 a2 a3 t302 t306 true)) else (foghornlaw19_ReedWords.j0 k a1 a2 a3 t302 t306 true))) else (foghornlaw19_ReedWords.j0 k a1 a2 a3 t302 t306 true)) else (foghornlaw19_ReedWords.j0 k a1 a2 a3 t302 t306 true)))))) = some r := H
 have A8 := Aside0.mk A80
 clear A80
 replace H := Option.bind_eq_some_iff.mp H
 obtain ⟨⟨t310, t311⟩, A90, H⟩ := H
 replace H : ((foghornref19_Whole.f k a1 a3).bind fun bt312 => ((reed_Data.f k a1 a3).bind fun bt314 => ((foghornref19_Data.f k a1 a3).bind fun bt316 => (if t298.toList = t300.toList then (if t299 = t301 then ((foghornlaw19_sameBytes.f k t302 t306).bind fun t318 => (if t318 = true then (if t303 = t307 then (if (t310 != bt312.1) = true then (foghornlaw19_ReedWords.j0 k a1 a2 a3 t302 t306 true) else (if t311 = bt312.2 then (if bt314.1.toList = bt316.1.toList then (foghornlaw19_ReedWords.j0 k a1 a2 a3 t302 t306 (bt314.2 != bt316.2)) else (foghornlaw19_ReedWords.j0 k a1 a2 a3 t302 t306 true)) else (foghornlaw19_ReedWords.j0 k a1 a2 a3 t302 t306 true))) else (foghornlaw19_ReedWords.j0 k a1 a2 a3 t302 t306 true)) else (foghornlaw19_ReedWords.j0 k a1 a2 a3 t302 t306 true))) else (foghornlaw19_ReedWords.j0 k a1 a2 a3 t302 t306 true)) else (foghornlaw19_ReedWords.j0 k a1 a2 a3 t302 t306 true))))) = some r := H
 have A9 := Aside0.mk A90
 clear A90
 replace H := Option.bind_eq_some_iff.mp H
 obtain ⟨⟨t312, t313⟩, A100, H⟩ := H
 replace H : ((reed_Data.f k a1 a3).bind fun bt314 => ((foghornref19_Data.f k a1 a3).bind fun bt316 => (if t298.toList = t300.toList then (if t299 = t301 then ((foghornlaw19_sameBytes.f k t302 t306).bind fun t318 => (if t318 = true then (if t303 = t307 then (if (t310 != t312) = true then (foghornlaw19_ReedWords.j0 k a1 a2 a3 t302 t306 true) else (if t311 = t313 then (if bt314.1.toList = bt316.1.toList then (foghornlaw19_ReedWords.j0 k a1 a2 a3 t302 t306 (bt314.2 != bt316.2)) else (foghornlaw19_ReedWords.j0 k a1 a2 a3 t302 t306 true)) else (foghornlaw19_ReedWords.j0 k a1 a2 a3 t302 t306 true))) else (foghornlaw19_ReedWords.j0 k a1 a2 a3 t302 t306 true)) else (foghornlaw19_ReedWords.j0 k a1 a2 a3 t302 t306 true))) else (foghornlaw19_ReedWords.j0 k a1 a2 a3 t302 t306 true)) else (foghornlaw19_ReedWords.j0 k a1 a2 a3 t302 t306 true)))) = some r := H
 have A10 := Aside0.mk A100
 clear A100
 replace H := Option.bind_eq_some_iff.mp H
 obtain ⟨⟨t314, t315⟩, A110, H⟩ := H
 replace H : ((foghornref19_Data.f k a1 a3).bind fun bt316 => (if t298.toList = t300.toList then (if t299 = t301 then ((foghornlaw19_sameBytes.f k t302 t306).bind fun t318 => (if t318 = true then (if t303 = t307 then (if (t310 != t312) = true then (foghornlaw19_ReedWords.j0 k a1 a2 a3 t302 t306 true) else (if t311 = t313 then (if t314.toList = bt316.1.toList then (foghornlaw19_ReedWords.j0 k a1 a2 a3 t302 t306 (t315 != bt316.2)) else (foghornlaw19_ReedWords.j0 k a1 a2 a3 t302 t306 true)) else (foghornlaw19_ReedWords.j0 k a1 a2 a3 t302 t306 true))) else (foghornlaw19_ReedWords.j0 k a1 a2 a3 t302 t306 true)) else (foghornlaw19_ReedWords.j0 k a1 a2 a3 t302 t306 true))) else (foghornlaw19_ReedWords.j0 k a1 a2 a3 t302 t306 true)) else (foghornlaw19_ReedWords.j0 k a1 a2 a3 t302 t306 true))) = some r := H
 have A11 := Aside0.mk A110
 clear A110
 replace H := Option.bind_eq_some_iff.mp H
 obtain ⟨⟨t316, t317⟩, A120, H⟩ := H
 replace H : (if t298.toList = t300.toList then (if t299 = t301 then ((foghornlaw19_sameBytes.f k t302 t306).bind fun t318 => (if t318 = true then (if t303 = t307 then (if (t310 != t312) = true then (foghornlaw19_ReedWords.j0 k a1 a2 a3 t302 t306 true) else (if t311 = t313 then (if t314.toList = t316.toList then (foghornlaw19_ReedWords.j0 k a1 a2 a3 t302 t306 (t315 != t317)) else (foghornlaw19_ReedWords.j0 k a1 a2 a3 t302 t306 true)) else (foghornlaw19_ReedWords.j0 k a1 a2 a3 t302 t306 true))) else (foghornlaw19_ReedWords.j0 k a1 a2 a3 t302 t306 true)) else (foghornlaw19_ReedWords.j0 k a1 a2 a3 t302 t306 true))) else (foghornlaw19_ReedWords.j0 k a1 a2 a3 t302 t306 true)) else (foghornlaw19_ReedWords.j0 k a1 a2 a3 t302 t306 true)) = some r := H
 have A12 := Aside0.mk A120
 clear A120
 have HC13 := Aside0.mk H
 clear H
 go_enter Try.func6, Try.ntmps6
 go_upto_region 9 with (first | ((with_reducible refine gate_callee (f := 19) rfl ?_); refine goesL_ (some 33) rfl rfl Try.func19 (by kernel_rfl) rfl #[.string a0, .int .i64 a3] rfl (by (try simp only [List.map_toArray, List.map_cons, List.map_nil]); first | done | rfl | (simp only [List.length_drop, List.length_take]; rfl)) ?_; (with_reducible refine (reed_Encode.calls k a0 a3 t298 t299 _ A5.out).mono ?_); rintro e w14 ⟨rfl, hb⟩; refine ⟨_, rfl, ?_⟩; have n0_ := Aside0.mk (below_step (by repeat (first | (with_reducible first | exact HB.out | apply below_alloc | apply pw_below_drewN | apply below_drew1) | exact HB.out)) hb); clear HB; have HB := n0_; clear n0_; (try clear hb); (try clear hb2); (try clear hk); (try clear hi)) | ((with_reducible refine gate_callee (f := 24) rfl ?_); refine goesL_ (some 39) rfl rfl Try.func24 (by kernel_rfl) rfl #[.string a0, .int .i64 a3] rfl (by (try simp only [List.map_toArray, List.map_cons, List.map_nil]); first | done | rfl | (simp only [List.length_drop, List.length_take]; rfl)) ?_; (with_reducible refine (foghornref19_Encode.calls k a0 a3 t300 t301 _ A6.out).mono ?_); rintro e w15 ⟨rfl, hb⟩; refine ⟨_, rfl, ?_⟩; have n0_ := Aside0.mk (below_step (by repeat (first | (with_reducible first | exact HB.out | apply below_alloc | apply pw_below_drewN | apply below_drew1) | exact HB.out)) hb); clear HB; have HB := n0_; clear n0_; (try clear hb); (try clear hb2); (try clear hk); (try clear hi)) | ((with_reducible refine gate_callee (f := 22) rfl ?_); refine goesL_ (some 45) rfl rfl Try.func22 (by kernel_rfl) rfl #[.string a1, .int .i64 a3] rfl (by (try simp only [List.map_toArray, List.map_cons, List.map_nil]); first | done | rfl | (simp only [List.length_drop, List.length_take]; rfl)) ?_; (with_reducible refine (reed_Syndromes.calls k a1 a3 t302 t303 _ A7.out).mono ?_); rintro e w16 ⟨v304, rfl, ho0, hb⟩; refine ⟨_, rfl, ?_⟩; have n0_ := Aside0.mk (Kd.R_lower ho0 (below_size (by repeat (first | (with_reducible first | exact HB.out | apply below_alloc | apply pw_below_drewN | apply below_drew1) | exact HB.out)))); have n1_ := Aside0.mk (below_step (by repeat (first | (with_reducible first | exact HB.out | apply below_alloc | apply pw_below_drewN | apply below_drew1) | exact HB.out)) hb); clear HB; have HO305 := n0_; have HB := n1_; clear n0_ n1_; (try clear hb); (try clear hb2); (try clear hk); (try clear hi); (try clear ho0)) | ((with_reducible refine gate_callee (f := 25) rfl ?_); refine goesL_ (some 51) rfl rfl Try.func25 (by kernel_rfl) rfl #[.string a1, .int .i64 a3] rfl (by (try simp only [List.map_toArray, List.map_cons, List.map_nil]); first | done | rfl | (simp only [List.length_drop, List.length_take]; rfl)) ?_; (with_reducible refine (foghornref19_Syndromes.calls k a1 a3 t306 t307 _ A8.out).mono ?_); rintro e w17 ⟨v308, rfl, ho0, hb⟩; refine ⟨_, rfl, ?_⟩; have n0_ := Aside0.mk (Kd.R_elder' (by (with_reducible repeat (first | apply Kd.R_alloc | apply Kd.R_drewN | apply Kd.R_drew)); exact HO305.out) (Kd.R_base ho0) hb); have n1_ := Aside0.mk (Kd.R_lower (Kd.R_new' ho0 (Kd.R_lt (by (with_reducible repeat (first | apply Kd.R_alloc | apply Kd.R_drewN | apply Kd.R_drew)); exact HO305.out))) (below_size (by repeat (first | (with_reducible first | exact HB.out | apply below_alloc | apply pw_below_drewN | apply below_drew1) | exact HB.out)))); have n2_ := Aside0.mk (below_step (by repeat (first | (with_reducible first | exact HB.out | apply below_alloc | apply pw_below_drewN | apply below_drew1) | exact HB.out)) hb); clear HO305; clear HB; have HO305 := n0_; have HO309 := n1_; have HB := n2_; clear n0_ n1_ n2_; (try clear hb); (try clear hb2); (try clear hk); (try clear hi); (try clear ho0)) | ((with_reducible refine gate_callee (f := 21) rfl ?_); refine goesL_ (some 57) rfl rfl Try.func21 (by kernel_rfl) rfl #[.string a1, .int .i64 a3] rfl (by (try simp only [List.map_toArray, List.map_cons, List.map_nil]); first | done | rfl | (simp only [List.length_drop, List.length_take]; rfl)) ?_; (with_reducible refine (reed_Whole.calls k a1 a3 t310 t311 _ A9.out).mono ?_); rintro e w18 ⟨rfl, hb⟩; refine ⟨_, rfl, ?_⟩; have n0_ := Aside0.mk (Kd.R_below (by (with_reducible repeat (first | apply Kd.R_alloc | apply Kd.R_drewN | apply Kd.R_drew)); exact HO305.out) hb); have n1_ := Aside0.mk (Kd.R_below (by (with_reducible repeat (first | apply Kd.R_alloc | apply Kd.R_drewN | apply Kd.R_drew)); exact HO309.out) hb); have n2_ := Aside0.mk (below_step (by repeat (first | (with_reducible first | exact HB.out | apply below_alloc | apply pw_below_drewN | apply below_drew1) | exact HB.out)) hb); clear HO305; clear HO309; clear HB; have HO305 := n0_; have HO309 := n1_; have HB := n2_; clear n0_ n1_ n2_; (try clear hb); (try clear hb2); (try clear hk); (try clear hi)) | ((with_reducible refine gate_callee (f := 26) rfl ?_); refine goesL_ (some 63) rfl rfl Try.func26 (by kernel_rfl) rfl #[.string a1, .int .i64 a3] rfl (by (try simp only [List.map_toArray, List.map_cons, List.map_nil]); first | done | rfl | (simp only [List.length_drop, List.length_take]; rfl)) ?_; (with_reducible refine (foghornref19_Whole.calls k a1 a3 t312 t313 _ A10.out).mono ?_); rintro e w19 ⟨rfl, hb⟩; refine ⟨_, rfl, ?_⟩; have n0_ := Aside0.mk (Kd.R_below (by (with_reducible repeat (first | apply Kd.R_alloc | apply Kd.R_drewN | apply Kd.R_drew)); exact HO305.out) hb); have n1_ := Aside0.mk (Kd.R_below (by (with_reducible repeat (first | apply Kd.R_alloc | apply Kd.R_drewN | apply Kd.R_drew)); exact HO309.out) hb); have n2_ := Aside0.mk (below_step (by repeat (first | (with_reducible first | exact HB.out | apply below_alloc | apply pw_below_drewN | apply below_drew1) | exact HB.out)) hb); clear HO305; clear HO309; clear HB; have HO305 := n0_; have HO309 := n1_; have HB := n2_; clear n0_ n1_ n2_; (try clear hb); (try clear hb2); (try clear hk); (try clear hi)) | ((with_reducible refine gate_callee (f := 27) rfl ?_); refine goesL_ (some 69) rfl rfl Try.func27 (by kernel_rfl) rfl #[.string a1, .int .i64 a3] rfl (by (try simp only [List.map_toArray, List.map_cons, List.map_nil]); first | done | rfl | (simp only [List.length_drop, List.length_take]; rfl)) ?_; (with_reducible refine (reed_Data.calls k a1 a3 t314 t315 _ A11.out).mono ?_); rintro e w20 ⟨rfl, hb⟩; refine ⟨_, rfl, ?_⟩; have n0_ := Aside0.mk (Kd.R_below (by (with_reducible repeat (first | apply Kd.R_alloc | apply Kd.R_drewN | apply Kd.R_drew)); exact HO305.out) hb); have n1_ := Aside0.mk (Kd.R_below (by (with_reducible repeat (first | apply Kd.R_alloc | apply Kd.R_drewN | apply Kd.R_drew)); exact HO309.out) hb); have n2_ := Aside0.mk (below_step (by repeat (first | (with_reducible first | exact HB.out | apply below_alloc | apply pw_below_drewN | apply below_drew1) | exact HB.out)) hb); clear HO305; clear HO309; clear HB; have HO305 := n0_; have HO309 := n1_; have HB := n2_; clear n0_ n1_ n2_; (try clear hb); (try clear hb2); (try clear hk); (try clear hi)) | ((with_reducible refine gate_callee (f := 28) rfl ?_); refine goesL_ (some 75) rfl rfl Try.func28 (by kernel_rfl) rfl #[.string a1, .int .i64 a3] rfl (by (try simp only [List.map_toArray, List.map_cons, List.map_nil]); first | done | rfl | (simp only [List.length_drop, List.length_take]; rfl)) ?_; (with_reducible refine (foghornref19_Data.calls k a1 a3 t316 t317 _ A12.out).mono ?_); rintro e w21 ⟨rfl, hb⟩; refine ⟨_, rfl, ?_⟩; have n0_ := Aside0.mk (Kd.R_below (by (with_reducible repeat (first | apply Kd.R_alloc | apply Kd.R_drewN | apply Kd.R_drew)); exact HO305.out) hb); have n1_ := Aside0.mk (Kd.R_below (by (with_reducible repeat (first | apply Kd.R_alloc | apply Kd.R_drewN | apply Kd.R_drew)); exact HO309.out) hb); have n2_ := Aside0.mk (below_step (by repeat (first | (with_reducible first | exact HB.out | apply below_alloc | apply pw_below_drewN | apply below_drew1) | exact HB.out)) hb); clear HO305; clear HO309; clear HB; have HO305 := n0_; have HO309 := n1_; have HB := n2_; clear n0_ n1_ n2_; (try clear hb); (try clear hb2); (try clear hk); (try clear hi)))
 (try simp only [Act.put, List.setIfInBounds_toArray, List.set_cons_zero, List.set_cons_succ])
 go_cut [116] (fun v116 wc => ∃ (kq : Nat) (x116_12 : Bool), v116 = .bool x116_12 ∧ Aside0 (foghornlaw19_ReedWords.j0 kq a1 a2 a3 t302 t306 x116_12 = some r) ∧ Aside0 (kq ≤ k) ∧ Aside0 (Kd.R (Kd.int .u8) 5 wc w.heap.size (fun k_ => some k_ ≠ (v308 : Value).ownBlock) v304 t302) ∧ Aside0 (Kd.R (Kd.int .u8) 5 wc w.heap.size (fun k_ => some k_ ≠ (v304 : Value).ownBlock) v308 t306) ∧ Aside0 (Below w.heap.size w wc))
 case first =>
  have H := HC13.out
  clear HC13
  by_cases c22 : t298.toList = t300.toList
  ·rw [if_pos c22] at H
   have c22b0 : (t298.toList == t300.toList) = true := beq_iff_eq.mpr c22
   have c22b1 : (t298.toList != t300.toList) = false := bne_eq_false_iff_eq.mpr c22
   clear c22
   (first | rw [c22b0] | (simp only [i64_w, i32_w]; rw [c22b0]) | skip)
   by_cases c23 : t299 = t301
   ·rw [if_pos c23] at H
    have c23b0 : (t299 == t301) = true := beq_iff_eq.mpr c23
    have c23b1 : (t299 != t301) = false := bne_eq_false_iff_eq.mpr c23
    clear c23
    replace H := Option.bind_eq_some_iff.mp H
    obtain ⟨t318, A240, H⟩ := H
    replace H : (if t318 = true then (if t303 = t307 then (if (t310 != t312) = true then (foghornlaw19_ReedWords.j0 k a1 a2 a3 t302 t306 true) else (if t311 = t313 then (if t314.toList = t316.toList then (foghornlaw19_ReedWords.j0 k a1 a2 a3 t302 t306 (t315 != t317)) else (foghornlaw19_ReedWords.j0 k a1 a2 a3 t302 t306 true)) else (foghornlaw19_ReedWords.j0 k a1 a2 a3 t302 t306 true))) else (foghornlaw19_ReedWords.j0 k a1 a2 a3 t302 t306 true)) else (foghornlaw19_ReedWords.j0 k a1 a2 a3 t302 t306 true)) = some r := H
    have A24 := Aside0.mk A240
    clear A240
    by_cases c25 : t318 = true
    ·subst c25
     have H1 : (if t303 = t307 then (if (t310 != t312) = true then (foghornlaw19_ReedWords.j0 k a1 a2 a3 t302 t306 true) else (if t311 = t313 then (if t314.toList = t316.toList then (foghornlaw19_ReedWords.j0 k a1 a2 a3 t302 t306 (t315 != t317)) else (foghornlaw19_ReedWords.j0 k a1 a2 a3 t302 t306 true)) else (foghornlaw19_ReedWords.j0 k a1 a2 a3 t302 t306 true))) else (foghornlaw19_ReedWords.j0 k a1 a2 a3 t302 t306 true)) = some r := by rw [if_pos rfl] at H; exact H
     clear H
     have H := H1
     clear H1
     by_cases c26 : t303 = t307
     ·rw [if_pos c26] at H
      have c26b0 : (t303 == t307) = true := beq_iff_eq.mpr c26
      have c26b1 : (t303 != t307) = false := bne_eq_false_iff_eq.mpr c26
      clear c26
      by_cases c27 : (t310 != t312) = true
      ·rw [if_pos c27] at H
       have c27b0 : (t310 != t312) = true := c27
       (try (have c27b1 : decide (t310 = t312) = false := by simpa using c27))
       (try (have c27b2 : (t310 == t312) = false := by simpa using c27))
       (try (have c27b3 : ¬ (t310 = t312) := by simpa using c27))
       clear c27
       as_aux_lemma =>
        have H' := Aside0.mk H
        clear H
        obtain ⟨Ao28, co28, eo28⟩ := Kd.R_slice HO305.out
        subst eo28
        obtain ⟨Ao29, co29, eo29⟩ := Kd.R_slice HO309.out
        subst eo29
        go_wp2_with (first | (go_at_call 29; (with_reducible refine (foghornlaw19_sameBytes.calls k _ _ t302 _ _ t306 true _ ?side1 ?side2 ?side3 ?side4 A24.out).mono ?_); (case side1 => repeat (first | exact (Kd.R_reads' HO305.out).2.2 | (with_reducible refine Kd.C_alloc ?_ _) | (with_reducible refine Kd.C_drewN ?_ _) | (with_reducible refine Kd.C_drew ?_))); (case side2 => exact (Kd.R_reads' HO305.out).2.1); (case side3 => repeat (first | exact (Kd.R_reads' HO309.out).2.2 | (with_reducible refine Kd.C_alloc ?_ _) | (with_reducible refine Kd.C_drewN ?_ _) | (with_reducible refine Kd.C_drew ?_))); (case side4 => exact (Kd.R_reads' HO309.out).2.1); rintro e w' ⟨rfl, ⟨nd, rfl⟩⟩))
        go_meet
        case rel => exact ⟨_, (true), (by first | rfl | (simp; done) | (simp [*]; done)), H', ⟨by first | omega | exact Nat.le_refl _⟩, ⟨by (with_reducible repeat (first | apply Kd.R_alloc | apply Kd.R_drewN | apply Kd.R_drew)); exact Kd.R_mono HO305.out (fun _ hk => hk.2)⟩, ⟨by (with_reducible repeat (first | apply Kd.R_alloc | apply Kd.R_drewN | apply Kd.R_drew)); exact Kd.R_mono HO309.out (fun _ hk => hk.2)⟩, ⟨by repeat (first | (with_reducible first | exact HB.out | apply below_alloc | apply pw_below_drewN | apply below_drew1) | exact HB.out)⟩⟩
      ·rw [if_neg c27] at H
       have c27b0 : (t310 != t312) = false := by simpa using c27
       (try (have c27b1 : decide (t310 = t312) = true := by simpa using c27))
       (try (have c27b2 : (t310 == t312) = true := by simpa using c27))
       clear c27
       by_cases c30 : t311 = t313
       ·rw [if_pos c30] at H
        have c30b0 : (t311 == t313) = true := beq_iff_eq.mpr c30
        have c30b1 : (t311 != t313) = false := bne_eq_false_iff_eq.mpr c30
        clear c30
        by_cases c31 : t314.toList = t316.toList
        ·rw [if_pos c31] at H
         have c31b0 : (t314.toList == t316.toList) = true := beq_iff_eq.mpr c31
         have c31b1 : (t314.toList != t316.toList) = false := bne_eq_false_iff_eq.mpr c31
         clear c31
         as_aux_lemma =>
          have H' := Aside0.mk H
          clear H
          obtain ⟨Ao32, co32, eo32⟩ := Kd.R_slice HO305.out
          subst eo32
          obtain ⟨Ao33, co33, eo33⟩ := Kd.R_slice HO309.out
          subst eo33
          go_wp2_with (first | (go_at_call 29; (with_reducible refine (foghornlaw19_sameBytes.calls k _ _ t302 _ _ t306 true _ ?side1 ?side2 ?side3 ?side4 A24.out).mono ?_); (case side1 => repeat (first | exact (Kd.R_reads' HO305.out).2.2 | (with_reducible refine Kd.C_alloc ?_ _) | (with_reducible refine Kd.C_drewN ?_ _) | (with_reducible refine Kd.C_drew ?_))); (case side2 => exact (Kd.R_reads' HO305.out).2.1); (case side3 => repeat (first | exact (Kd.R_reads' HO309.out).2.2 | (with_reducible refine Kd.C_alloc ?_ _) | (with_reducible refine Kd.C_drewN ?_ _) | (with_reducible refine Kd.C_drew ?_))); (case side4 => exact (Kd.R_reads' HO309.out).2.1); rintro e w' ⟨rfl, ⟨nd, rfl⟩⟩))
          go_meet
          case rel => exact ⟨_, ((t315 != t317)), (by first | rfl | (simp; done) | (simp [*]; done)), H', ⟨by first | omega | exact Nat.le_refl _⟩, ⟨by (with_reducible repeat (first | apply Kd.R_alloc | apply Kd.R_drewN | apply Kd.R_drew)); exact Kd.R_mono HO305.out (fun _ hk => hk.2)⟩, ⟨by (with_reducible repeat (first | apply Kd.R_alloc | apply Kd.R_drewN | apply Kd.R_drew)); exact Kd.R_mono HO309.out (fun _ hk => hk.2)⟩, ⟨by repeat (first | (with_reducible first | exact HB.out | apply below_alloc | apply pw_below_drewN | apply below_drew1) | exact HB.out)⟩⟩
        ·rw [if_neg c31] at H
         have c31b0 : (t314.toList == t316.toList) = false := beq_eq_false_iff_ne.mpr c31
         have c31b1 : (t314.toList != t316.toList) = true := bne_iff_ne.mpr c31
         as_aux_lemma =>
          have H' := Aside0.mk H
          clear H
          obtain ⟨Ao34, co34, eo34⟩ := Kd.R_slice HO305.out
          subst eo34
          obtain ⟨Ao35, co35, eo35⟩ := Kd.R_slice HO309.out
          subst eo35
          go_wp2_with (first | (go_at_call 29; (with_reducible refine (foghornlaw19_sameBytes.calls k _ _ t302 _ _ t306 true _ ?side1 ?side2 ?side3 ?side4 A24.out).mono ?_); (case side1 => repeat (first | exact (Kd.R_reads' HO305.out).2.2 | (with_reducible refine Kd.C_alloc ?_ _) | (with_reducible refine Kd.C_drewN ?_ _) | (with_reducible refine Kd.C_drew ?_))); (case side2 => exact (Kd.R_reads' HO305.out).2.1); (case side3 => repeat (first | exact (Kd.R_reads' HO309.out).2.2 | (with_reducible refine Kd.C_alloc ?_ _) | (with_reducible refine Kd.C_drewN ?_ _) | (with_reducible refine Kd.C_drew ?_))); (case side4 => exact (Kd.R_reads' HO309.out).2.1); rintro e w' ⟨rfl, ⟨nd, rfl⟩⟩))
          go_meet
          case rel => exact ⟨_, (true), (by first | rfl | (simp; done) | (simp [*]; done)), H', ⟨by first | omega | exact Nat.le_refl _⟩, ⟨by (with_reducible repeat (first | apply Kd.R_alloc | apply Kd.R_drewN | apply Kd.R_drew)); exact Kd.R_mono HO305.out (fun _ hk => hk.2)⟩, ⟨by (with_reducible repeat (first | apply Kd.R_alloc | apply Kd.R_drewN | apply Kd.R_drew)); exact Kd.R_mono HO309.out (fun _ hk => hk.2)⟩, ⟨by repeat (first | (with_reducible first | exact HB.out | apply below_alloc | apply pw_below_drewN | apply below_drew1) | exact HB.out)⟩⟩
       ·rw [if_neg c30] at H
        have c30b0 : (t311 == t313) = false := beq_eq_false_iff_ne.mpr c30
        have c30b1 : (t311 != t313) = true := bne_iff_ne.mpr c30
        as_aux_lemma =>
         have H' := Aside0.mk H
         clear H
         obtain ⟨Ao36, co36, eo36⟩ := Kd.R_slice HO305.out
         subst eo36
         obtain ⟨Ao37, co37, eo37⟩ := Kd.R_slice HO309.out
         subst eo37
         go_wp2_with (first | (go_at_call 29; (with_reducible refine (foghornlaw19_sameBytes.calls k _ _ t302 _ _ t306 true _ ?side1 ?side2 ?side3 ?side4 A24.out).mono ?_); (case side1 => repeat (first | exact (Kd.R_reads' HO305.out).2.2 | (with_reducible refine Kd.C_alloc ?_ _) | (with_reducible refine Kd.C_drewN ?_ _) | (with_reducible refine Kd.C_drew ?_))); (case side2 => exact (Kd.R_reads' HO305.out).2.1); (case side3 => repeat (first | exact (Kd.R_reads' HO309.out).2.2 | (with_reducible refine Kd.C_alloc ?_ _) | (with_reducible refine Kd.C_drewN ?_ _) | (with_reducible refine Kd.C_drew ?_))); (case side4 => exact (Kd.R_reads' HO309.out).2.1); rintro e w' ⟨rfl, ⟨nd, rfl⟩⟩))
         go_meet
         case rel => exact ⟨_, (true), (by first | rfl | (simp; done) | (simp [*]; done)), H', ⟨by first | omega | exact Nat.le_refl _⟩, ⟨by (with_reducible repeat (first | apply Kd.R_alloc | apply Kd.R_drewN | apply Kd.R_drew)); exact Kd.R_mono HO305.out (fun _ hk => hk.2)⟩, ⟨by (with_reducible repeat (first | apply Kd.R_alloc | apply Kd.R_drewN | apply Kd.R_drew)); exact Kd.R_mono HO309.out (fun _ hk => hk.2)⟩, ⟨by repeat (first | (with_reducible first | exact HB.out | apply below_alloc | apply pw_below_drewN | apply below_drew1) | exact HB.out)⟩⟩
     ·rw [if_neg c26] at H
      have c26b0 : (t303 == t307) = false := beq_eq_false_iff_ne.mpr c26
      have c26b1 : (t303 != t307) = true := bne_iff_ne.mpr c26
      as_aux_lemma =>
       have H' := Aside0.mk H
       clear H
       obtain ⟨Ao38, co38, eo38⟩ := Kd.R_slice HO305.out
       subst eo38
       obtain ⟨Ao39, co39, eo39⟩ := Kd.R_slice HO309.out
       subst eo39
       go_wp2_with (first | (go_at_call 29; (with_reducible refine (foghornlaw19_sameBytes.calls k _ _ t302 _ _ t306 true _ ?side1 ?side2 ?side3 ?side4 A24.out).mono ?_); (case side1 => repeat (first | exact (Kd.R_reads' HO305.out).2.2 | (with_reducible refine Kd.C_alloc ?_ _) | (with_reducible refine Kd.C_drewN ?_ _) | (with_reducible refine Kd.C_drew ?_))); (case side2 => exact (Kd.R_reads' HO305.out).2.1); (case side3 => repeat (first | exact (Kd.R_reads' HO309.out).2.2 | (with_reducible refine Kd.C_alloc ?_ _) | (with_reducible refine Kd.C_drewN ?_ _) | (with_reducible refine Kd.C_drew ?_))); (case side4 => exact (Kd.R_reads' HO309.out).2.1); rintro e w' ⟨rfl, ⟨nd, rfl⟩⟩))
       go_meet
       case rel => exact ⟨_, (true), (by first | rfl | (simp; done) | (simp [*]; done)), H', ⟨by first | omega | exact Nat.le_refl _⟩, ⟨by (with_reducible repeat (first | apply Kd.R_alloc | apply Kd.R_drewN | apply Kd.R_drew)); exact Kd.R_mono HO305.out (fun _ hk => hk.2)⟩, ⟨by (with_reducible repeat (first | apply Kd.R_alloc | apply Kd.R_drewN | apply Kd.R_drew)); exact Kd.R_mono HO309.out (fun _ hk => hk.2)⟩, ⟨by repeat (first | (with_reducible first | exact HB.out | apply below_alloc | apply pw_below_drewN | apply below_drew1) | exact HB.out)⟩⟩
    ·replace c25 := Bool.eq_false_iff.mpr c25
     subst c25
     have H1 : (foghornlaw19_ReedWords.j0 k a1 a2 a3 t302 t306 true) = some r := by rw [if_neg (show ¬ (false = true) by decide)] at H; exact H
     clear H
     have H := H1
     clear H1
     as_aux_lemma =>
      have H' := Aside0.mk H
      clear H
      obtain ⟨Ao40, co40, eo40⟩ := Kd.R_slice HO305.out
      subst eo40
      obtain ⟨Ao41, co41, eo41⟩ := Kd.R_slice HO309.out
      subst eo41
      go_wp2_with (first | (go_at_call 29; (with_reducible refine (foghornlaw19_sameBytes.calls k _ _ t302 _ _ t306 false _ ?side1 ?side2 ?side3 ?side4 A24.out).mono ?_); (case side1 => repeat (first | exact (Kd.R_reads' HO305.out).2.2 | (with_reducible refine Kd.C_alloc ?_ _) | (with_reducible refine Kd.C_drewN ?_ _) | (with_reducible refine Kd.C_drew ?_))); (case side2 => exact (Kd.R_reads' HO305.out).2.1); (case side3 => repeat (first | exact (Kd.R_reads' HO309.out).2.2 | (with_reducible refine Kd.C_alloc ?_ _) | (with_reducible refine Kd.C_drewN ?_ _) | (with_reducible refine Kd.C_drew ?_))); (case side4 => exact (Kd.R_reads' HO309.out).2.1); rintro e w' ⟨rfl, ⟨nd, rfl⟩⟩))
      go_meet
      case rel => exact ⟨_, (true), (by first | rfl | (simp; done) | (simp [*]; done)), H', ⟨by first | omega | exact Nat.le_refl _⟩, ⟨by (with_reducible repeat (first | apply Kd.R_alloc | apply Kd.R_drewN | apply Kd.R_drew)); exact Kd.R_mono HO305.out (fun _ hk => hk.2)⟩, ⟨by (with_reducible repeat (first | apply Kd.R_alloc | apply Kd.R_drewN | apply Kd.R_drew)); exact Kd.R_mono HO309.out (fun _ hk => hk.2)⟩, ⟨by repeat (first | (with_reducible first | exact HB.out | apply below_alloc | apply pw_below_drewN | apply below_drew1) | exact HB.out)⟩⟩
   ·rw [if_neg c23] at H
    have c23b0 : (t299 == t301) = false := beq_eq_false_iff_ne.mpr c23
    have c23b1 : (t299 != t301) = true := bne_iff_ne.mpr c23
    as_aux_lemma =>
     have H' := Aside0.mk H
     clear H
     go_wp2
     go_meet
     case rel => exact ⟨_, (true), (by first | rfl | (simp; done) | (simp [*]; done)), H', ⟨by first | omega | exact Nat.le_refl _⟩, ⟨by (with_reducible repeat (first | apply Kd.R_alloc | apply Kd.R_drewN | apply Kd.R_drew)); exact Kd.R_mono HO305.out (fun _ hk => hk.2)⟩, ⟨by (with_reducible repeat (first | apply Kd.R_alloc | apply Kd.R_drewN | apply Kd.R_drew)); exact Kd.R_mono HO309.out (fun _ hk => hk.2)⟩, ⟨by repeat (first | (with_reducible first | exact HB.out | apply below_alloc | apply pw_below_drewN | apply below_drew1) | exact HB.out)⟩⟩
  ·rw [if_neg c22] at H
   have c22b0 : (t298.toList == t300.toList) = false := beq_eq_false_iff_ne.mpr c22
   have c22b1 : (t298.toList != t300.toList) = true := bne_iff_ne.mpr c22
   (first | rw [c22b0] | (simp only [i64_w, i32_w]; rw [c22b0]) | skip)
   as_aux_lemma =>
    have H' := Aside0.mk H
    clear H
    go_wp2
    go_meet
    case rel => exact ⟨_, (true), (by first | rfl | (simp; done) | (simp [*]; done)), H', ⟨by first | omega | exact Nat.le_refl _⟩, ⟨by (with_reducible repeat (first | apply Kd.R_alloc | apply Kd.R_drewN | apply Kd.R_drew)); exact Kd.R_mono HO305.out (fun _ hk => hk.2)⟩, ⟨by (with_reducible repeat (first | apply Kd.R_alloc | apply Kd.R_drewN | apply Kd.R_drew)); exact Kd.R_mono HO309.out (fun _ hk => hk.2)⟩, ⟨by repeat (first | (with_reducible first | exact HB.out | apply below_alloc | apply pw_below_drewN | apply below_drew1) | exact HB.out)⟩⟩
 case rest =>
  clear HC13
  try clear c1
  try clear c2
  try clear p2
  try clear c3
  try clear c6
  try clear c19
  try clear c21
  try clear c22
  try clear c22b0
  try clear c22b1
  try clear c23
  try clear c23b0
  try clear c23b1
  try clear c24
  try clear c25
  try clear c26
  try clear c26b0
  try clear c26b1
  try clear c27
  try clear c27b0
  try clear c27b1
  try clear c27b2
  try clear c28
  try clear c30
  try clear c30b0
  try clear c30b1
  try clear c31
  try clear c31b0
  try clear c31b1
  obtain ⟨kq, x116_12, rfl, HA, HJ12, HO_13, HO_15, HB⟩ := hcut
  cases kq with
  | zero => exact absurd HA.out (by simp [foghornlaw19_ReedWords.j0])
  | succ kj12 =>
   have H := HA.out
   clear HA
   simp only [foghornlaw19_ReedWords.j0] at H
   by_cases c42 : x116_12 = true
   ·subst c42
    have H1 : (some false) = some r := by rw [if_pos rfl] at H; exact H
    clear H
    have H := H1
    clear H1
    as_aux_lemma =>
     exact absurd ((Option.some.inj H).trans HQ_.out) (by decide)
   ·replace c42 := Bool.eq_false_iff.mpr c42
    subst c42
    have H1 : ((reed_Apart.f kj12 a1 a2).bind fun bt319 => ((foghornref19_Apart.f kj12 a1 a2).bind fun bt321 => (foghornlaw19_ReedWords.l0 kj12 a1 a3 bt319.2 bt321.2 t302 t306 bt319.1 bt321.1 0))) = some r := by rw [if_neg (show ¬ (false = true) by decide)] at H; exact H
    clear H
    have H := H1
    clear H1
    replace H := Option.bind_eq_some_iff.mp H
    obtain ⟨⟨t319, t320⟩, A430, H⟩ := H
    replace H : ((foghornref19_Apart.f kj12 a1 a2).bind fun bt321 => (foghornlaw19_ReedWords.l0 kj12 a1 a3 t320 bt321.2 t302 t306 t319 bt321.1 0)) = some r := H
    have A43 := Aside0.mk A430
    clear A430
    replace H := Option.bind_eq_some_iff.mp H
    obtain ⟨⟨t321, t322⟩, A440, H⟩ := H
    replace H : (foghornlaw19_ReedWords.l0 kj12 a1 a3 t320 t322 t302 t306 t319 t321 0) = some r := H
    have A44 := Aside0.mk A440
    clear A440
    have H' := Aside0.mk H
    clear H
    go_wp2_with (first | ((with_reducible refine gate_callee (f := 23) rfl ?_); refine goesL_ (some 120) rfl rfl Try.func23 (by kernel_rfl) rfl #[.string a1, .string a2] rfl (by (try simp only [List.map_toArray, List.map_cons, List.map_nil]); first | done | rfl | (simp only [List.length_drop, List.length_take]; rfl)) ?_; (with_reducible refine (reed_Apart.calls kj12 a1 a2 t319 t320 _ A43.out).mono ?_); rintro e w' ⟨rfl, ⟨nd, rfl⟩⟩; refine ⟨_, rfl, ?_⟩) | ((with_reducible refine gate_callee (f := 30) rfl ?_); refine goesL_ (some 126) rfl rfl Try.func30 (by kernel_rfl) rfl #[.string a1, .string a2] rfl (by (try simp only [List.map_toArray, List.map_cons, List.map_nil]); first | done | rfl | (simp only [List.length_drop, List.length_take]; rfl)) ?_; (with_reducible refine (foghornref19_Apart.calls kj12 a1 a2 t321 t322 _ A44.out).mono ?_); rintro e w' ⟨rfl, ⟨nd, rfl⟩⟩; refine ⟨_, rfl, ?_⟩))
    go_loopg [27] kj12 (fun kq v27 w' => ∃ (x13_2 : List Int) (x27_2 : Int), v27 = .int .i64 x27_2 ∧ Aside0 (foghornlaw19_ReedWords.l0 kq a1 a3 t320 t322 x13_2 t306 t319 t321 x27_2 = some r) ∧ Aside0 (kq ≤ kj12) ∧ Aside0 (Kd.R (Kd.int .u8) 5 w' w.heap.size (fun k_ => some k_ ≠ (v308 : Value).ownBlock) v304 x13_2) ∧ Aside0 (Kd.R (Kd.int .u8) 5 w' w.heap.size (fun k_ => some k_ ≠ (v304 : Value).ownBlock) v308 t306) ∧ Aside0 (Below w.heap.size w w'))
    case atStart => exact ⟨(t302), (0), (by first | rfl | (simp; done) | (simp [*]; done)), H', ⟨Nat.le_refl _⟩, ⟨by (with_reducible repeat (first | apply Kd.R_alloc | apply Kd.R_drewN | apply Kd.R_drew)); exact HO_13.out⟩, ⟨by (with_reducible repeat (first | apply Kd.R_alloc | apply Kd.R_drewN | apply Kd.R_drew)); exact HO_15.out⟩, ⟨by repeat (first | (with_reducible first | exact HB.out | apply below_alloc | apply pw_below_drewN | apply below_drew1) | exact HB.out)⟩⟩
    case round =>
     clear H'
     try clear c1
     try clear c2
     try clear p2
     try clear c3
     try clear c4
     try clear c6
     try clear c19
     try clear c21
     try clear c22
     try clear c22b0
     try clear c22b1
     try clear c23
     try clear c23b0
     try clear c23b1
     try clear c24
     try clear c25
     try clear c26
     try clear c26b0
     try clear c26b1
     try clear c27
     try clear c27b0
     try clear c27b1
     try clear c27b2
     try clear c28
     try clear c30
     try clear c30b0
     try clear c30b1
     try clear c31
     try clear c31b0
     try clear c31b1
     try clear c42
     try clear p2
     obtain ⟨x13_2, x27_2, rfl, HA, HK2, HO_13, HO_15, HB⟩ := hrel
     cases gk with
     | zero => exact absurd HA.out (by simp [foghornlaw19_ReedWords.l0])
     | succ k2 =>
      have H := HA.out
      clear HA
      simp only [foghornlaw19_ReedWords.l0] at H
      by_cases c45 : x27_2 < (x13_2.length : Int)
      ·rw [if_pos c45] at H
       have c45b0 : decide (x27_2 < (x13_2.length : Int)) = true := decide_eq_true c45
       clear c45
       by_cases c46 : 0 ≤ x27_2
       ·rw [if_pos c46] at H
        have c46b0 : decide (0 ≤ x27_2) = true := decide_eq_true c46
        clear c46
        obtain ⟨y324, hy324⟩ : ∃ y_ : List Int, y_ = (x13_2.set (x27_2 : Int).toNat (((rd x13_2 x27_2) + 1) % 256)) := ⟨_, rfl⟩
        replace H : (foghornlaw19_ReedWords.l0 k2 a1 a3 t320 t322 y324 t306 t319 t321 (wrap64 (x27_2 + 1))) = some r := by first | (rw [hy324]; with_reducible exact H) | (have H2_ := (Option.bind_some _ _).symm.trans H; rw [hy324]; with_reducible exact H2_) | (have H2_ := (Option.bind_some _ _).symm.trans H; with_reducible exact H2_) | with_reducible exact H | (rw [hy324]; exact H) | exact H
        have Ny324 := Aside0.mk hy324
        clear hy324
        as_aux_lemma =>
         have H' := Aside0.mk H
         clear H
         obtain ⟨Ao48, co48, eo48⟩ := Kd.R_slice HO_13.out
         subst eo48
         have p323 : 0 ≤ (x27_2 : Int) := of_decide_eq_true (by first | (with_reducible assumption) | assumption)
         have q323 : x27_2 < (x13_2.length : Int) := of_decide_eq_true (by first | (with_reducible assumption) | assumption)
         obtain ⟨ad323, e323, hx323_0⟩ := Kd.at_int (Kd.R_reads' HO_13.out).2.2 x27_2 p323 q323
         cases e323
         replace p323 := eq_true p323
         replace q323 := eq_true q323
         have p47 : 0 ≤ (x27_2 : Int) := of_decide_eq_true (by first | (with_reducible assumption) | assumption)
         have q47 : (x27_2 : Int) < ((x13_2.length : Int) : Int) := of_decide_eq_true (by first | (with_reducible assumption) | assumption)
         obtain ⟨go47, co47, eo47, gb47, gl47, cl47, HG47⟩ := Kd.R_form HO_13.out (by omega)
         (first | cases eo47 | (injection eo47 with ea_ en_ ec_; (first | subst ea_ | (injection ea_ with ea_; subst ea_)); subst ec_; clear en_))
         have GB47 := Aside0.mk gb47
         have GG47 := Aside0.mk HG47
         clear gb47 gl47 HG47
         (first | simp only [add_plain] at hx323_0 | skip)
         obtain ⟨hx47_0, hf47_0⟩ := Kd.R_celln 0 HO_13.out (x27_2 : Int) p47 q47
         replace p47 := eq_true p47
         replace q47 := eq_true q47
         have HP49 := Kd.R_putg HO_13.out (x27_2 : Int) (((rd x13_2 x27_2) + 1) % 256)
         go_wp2_with (first | ((with_reducible refine gate_store (t := 5) (p := 142) rfl ?_); refine store_event (t := 5) (p := 142) (v := ?vo_w50) (w1 := (wr.setCell ⟨go47, (x27_2 : Int).toNat, none⟩ (.int .u8 (((rd x13_2 x27_2) + 1) % 256)))) ?hg ?ho ?hn ?hr ?_; (case ho => rfl); (case hg => rfl); (case hn => rfl); (case hr => first | (go_simp; done) | (go_simp; rfl)); intro w50 hw; have hg : wr.grownBy w50 (some go47) := (by rw [hw]; exact HP49.2); have hp_ : Kd.R (Kd.int .u8) 5 w50 w.heap.size (fun k_ => some k_ ≠ (v308 : Value).ownBlock) (.slice (some ⟨go47, 0, none⟩) x13_2.length co48) y324 := (by rw [hw, Ny324.out]; exact HP49.1); clear HP49; have n0_ := Aside0.mk (hp_); have n1_ := Aside0.mk (Kd.R_after (v := (.slice (some ⟨go47, 0, none⟩) x13_2.length co48)) (v1 := (.slice (some ⟨go47, 0, none⟩) x13_2.length co48)) (ok := (fun _ => True)) (by (with_reducible repeat (first | apply Kd.R_alloc | apply Kd.R_drewN | apply Kd.R_drew)); exact Kd.R_mono HO_15.out (fun _ hk => ⟨trivial, hk⟩)) hg (.inl rfl)); have n2_ := Aside0.mk ((by rw [hw]; exact below_set (HB.out) GB47.out : Below w.heap.size w w50)); clear HO_13; clear HO_15; clear HB; have HO_13 := n0_; have HO_15 := n1_; have HB := n2_; clear n0_ n1_ n2_; clear hg hw hp_))
         first | go_roundg k2 | (simp only [add_plain] at *; go_roundg k2)
         case measure => have := HJ12.out; have := HK2.out; omega
         case rel => exact ⟨(y324), (wrap64 (x27_2 + 1)), (by first | rfl | (simp; done) | (simp [*]; done)), H', ⟨by have := HJ12.out; have := HK2.out; omega⟩, ⟨by (with_reducible repeat (first | apply Kd.R_alloc | apply Kd.R_drewN | apply Kd.R_drew)); exact HO_13.out⟩, ⟨by (with_reducible repeat (first | apply Kd.R_alloc | apply Kd.R_drewN | apply Kd.R_drew)); exact Kd.R_mono HO_15.out (fun _ hk => hk.2)⟩, ⟨by repeat (first | (with_reducible first | exact HB.out | apply below_alloc | apply pw_below_drewN | apply below_drew1) | exact HB.out)⟩⟩
       ·rw [if_neg c46] at H
        exact absurd H (by simp)
      ·rw [if_neg c45] at H
       have c45b0 : decide (x27_2 < (x13_2.length : Int)) = false := decide_eq_false c45
       clear c45
       replace H := Option.bind_eq_some_iff.mp H
       obtain ⟨⟨t325, t326⟩, A510, H⟩ := H
       replace H : (if t319 = t321 then (if t320 = t322 then ((foghornlaw19_sameBytes.f k2 t325 t306).bind fun t329 => (some t329)) else (some false)) else (some false)) = some r := H
       have A51 := Aside0.mk A510
       clear A510
       by_cases c52 : t319 = t321
       ·rw [if_pos c52] at H
        have c52b0 : (t319 == t321) = true := beq_iff_eq.mpr c52
        have c52b1 : (t319 != t321) = false := bne_eq_false_iff_eq.mpr c52
        clear c52
        by_cases c53 : t320 = t322
        ·rw [if_pos c53] at H
         have c53b0 : (t320 == t322) = true := beq_iff_eq.mpr c53
         have c53b1 : (t320 != t322) = false := bne_eq_false_iff_eq.mpr c53
         clear c53
         replace H := Option.bind_eq_some_iff.mp H
         obtain ⟨t329, A540, H⟩ := H
         replace H : (some t329) = some r := H
         have A54 := Aside0.mk A540
         clear A540
         as_aux_lemma =>
          obtain rfl := Option.some.inj H
          obtain ⟨Ao55, co55, eo55⟩ := Kd.R_slice HO_13.out
          subst eo55
          go_wp2_with (first | ((with_reducible refine gate_callee (f := 22) rfl ?_); refine goesL_ (some 146) rfl rfl Try.func22 (by kernel_rfl) rfl #[.string a1, .int .i64 a3] rfl (by (try simp only [List.map_toArray, List.map_cons, List.map_nil]); first | done | rfl | (simp only [List.length_drop, List.length_take]; rfl)) ?_; (with_reducible refine (reed_Syndromes.calls k2 a1 a3 t325 t326 _ A51.out).mono ?_); rintro e w56 ⟨v327, rfl, ho0, hb⟩; refine ⟨_, rfl, ?_⟩; have n0_ := Aside0.mk (Kd.R_elder' (by (with_reducible repeat (first | apply Kd.R_alloc | apply Kd.R_drewN | apply Kd.R_drew)); exact HO_13.out) (Kd.R_base ho0) hb); have n1_ := Aside0.mk (Kd.R_elder' (by (with_reducible repeat (first | apply Kd.R_alloc | apply Kd.R_drewN | apply Kd.R_drew)); exact HO_15.out) (Kd.R_base ho0) hb); have n2_ := Aside0.mk (Kd.R_lower (Kd.R_new' (Kd.R_new' ho0 (Kd.R_lt (by (with_reducible repeat (first | apply Kd.R_alloc | apply Kd.R_drewN | apply Kd.R_drew)); exact HO_13.out))) (Kd.R_lt (by (with_reducible repeat (first | apply Kd.R_alloc | apply Kd.R_drewN | apply Kd.R_drew)); exact HO_15.out))) (below_size (by repeat (first | (with_reducible first | exact HB.out | apply below_alloc | apply pw_below_drewN | apply below_drew1) | exact HB.out)))); have n3_ := Aside0.mk (below_step (by repeat (first | (with_reducible first | exact HB.out | apply below_alloc | apply pw_below_drewN | apply below_drew1) | exact HB.out)) hb); clear HO_13; clear HO_15; clear HB; have HO_13 := n0_; have HO_15 := n1_; have HO328 := n2_; have HB := n3_; clear n0_ n1_ n2_ n3_; (try clear hb); (try clear hb2); (try clear hk); (try clear hi); (try clear ho0); obtain ⟨Ao57, co57, eo57⟩ := Kd.R_slice HO328.out; subst eo57; obtain ⟨Ao58, co58, eo58⟩ := Kd.R_slice HO_15.out; subst eo58) | (go_at_call 29; (with_reducible refine (foghornlaw19_sameBytes.calls k2 _ _ t325 _ _ t306 t329 _ ?side1 ?side2 ?side3 ?side4 A54.out).mono ?_); (case side1 => repeat (first | exact (Kd.R_reads' HO328.out).2.2 | (with_reducible refine Kd.C_alloc ?_ _) | (with_reducible refine Kd.C_drewN ?_ _) | (with_reducible refine Kd.C_drew ?_))); (case side2 => exact (Kd.R_reads' HO328.out).2.1); (case side3 => repeat (first | exact (Kd.R_reads' HO_15.out).2.2 | (with_reducible refine Kd.C_alloc ?_ _) | (with_reducible refine Kd.C_drewN ?_ _) | (with_reducible refine Kd.C_drew ?_))); (case side4 => exact (Kd.R_reads' HO_15.out).2.1); rintro e w' ⟨rfl, ⟨nd, rfl⟩⟩))
          go_ret
          exact ⟨by first | rfl | (simp [errW_none, errW_some] <;> rfl) | (simp [*, errW_none, errW_some] <;> rfl), by repeat (first | (with_reducible first | exact HB.out | apply below_alloc | apply pw_below_drewN | apply below_drew1) | exact HB.out)⟩
        ·rw [if_neg c53] at H
         have c53b0 : (t320 == t322) = false := beq_eq_false_iff_ne.mpr c53
         have c53b1 : (t320 != t322) = true := bne_iff_ne.mpr c53
         as_aux_lemma =>
          exact absurd ((Option.some.inj H).trans HQ_.out) (by decide)
       ·rw [if_neg c52] at H
        have c52b0 : (t319 == t321) = false := beq_eq_false_iff_ne.mpr c52
        have c52b1 : (t319 != t321) = true := bne_iff_ne.mpr c52
        as_aux_lemma =>
         exact absurd ((Option.some.inj H).trans HQ_.out) (by decide)

theorem foghornlaw19_ReedWords.walk (P : foghornlaw19_ReedWords.Pure) (a0 : ByteArray) (a1 : ByteArray) (a2 : ByteArray) (a3 : Int) (w : World) (w0 : a0.size ≤ 140737488351232) (w1 : a1.size ≤ 140737488351232) (w2 : a2.size ≤ 140737488351232) (w3 : (Lit.int .i64 a3).wf = true) :
  Calls Try.prog 6 #[.string a0, .string a1, .string a2, .int .i64 a3] w fun e w' => e = .returned (.bool true) ∧ Below w.heap.size w w' := by
 obtain ⟨k, h⟩ := P a0 a1 a2 a3 w0 w1 w2 w3
 refine (foghornlaw19_ReedWords.calls k a0 a1 a2 a3 true w h rfl).mono ?_
 rintro e w' ⟨rfl, hd⟩
 exact ⟨rfl, hd⟩

end Go.Proofs.Ytncoakokdajibaa.Q
