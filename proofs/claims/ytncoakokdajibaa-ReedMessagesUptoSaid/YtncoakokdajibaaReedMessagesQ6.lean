-- Printed by myprint.py (ours) over the kit's printer, out of the translation.
import Derived.Test.YtncoakokdajibaaReedMessagesK0
import Derived.Test.YtncoakokdajibaaReedMessagesF0
import Derived.Test.YtncoakokdajibaaReedMessagesQ2
import Derived.Test.YtncoakokdajibaaReedMessagesQ3
import Derived.Test.YtncoakokdajibaaReedMessagesQ4
import Derived.Test.YtncoakokdajibaaReedMessagesQ5
namespace Go.Proofs.Ytncoakokdajibaa.Q
open Go.RowKit Go.Proofs.YtncoakokdajibaaW.PrintWords Go.Proofs.YtncoakokdajibaaW.PrintLast Go.Proofs.YtncoakokdajibaaW.PrintMore
attribute [local go_sem] ArrW.ptrOf_slice max2_int min2_int max_two min_two max_three min_three max_four min_four   -- for this text's walks alone
set_option linter.unusedVariables false
set_option linter.unusedSimpArgs false

/-! ### foghornlaw19_ReedMessages: function 8 -/
set_option maxHeartbeats 8000000 in
set_option maxRecDepth 100000 in
theorem foghornlaw19_ReedMessages.calls (k : Nat) (a0 : ByteArray) (a1 : Int) (a2 : Int) (A3 : Option Addr) (c3 : Nat) (l3 : List ByteArray) (r : Bool) (w : World) (hr3 : Kd.C Kd.string w A3 l3.length l3) (hc3 : l3.length ≤ c3) (h : foghornlaw19_ReedMessages.f k a0 a1 a2 l3 = some r) (hq_ : r = true) :
  Calls Try.prog 8 #[.string a0, .int .i64 a1, .int .i64 a2, .slice A3 l3.length c3] w fun e w' => e = .returned (.bool r) ∧ Below w.heap.size w w' := by
 have HQ_ := Aside0.mk hq_
 clear hq_
 have HR3 := Aside0.mk hr3
 have HC3 := Aside0.mk hc3
 clear hr3 hc3
 have HB := Aside0.mk (Below.refl w.heap.size w)
 have H : ((reed_Words.f k a0 a1 a2).bind fun bt402 => ((foghornref19_Words.f k a0 a1 a2).bind fun bt406 => ((some (([] : List ByteArray) : List ByteArray)).bind fun y410 => (if y410.length + l3.length < 8796093022208 then ((some (y410 ++ l3 : List ByteArray)).bind fun y413 => ((reed_Message.f k y413 a2).bind fun bt416 => ((foghornref19_Message.f k l3 a2).bind fun bt418 => ((foghornlaw19_sameTexts.f k bt402.1 bt406.1).bind fun t420 => (if t420 = true then (if bt402.2 = bt406.2 then (if bt416.1.toList = bt418.1.toList then (if bt416.2 = bt418.2 then ((foghornlaw19_sameTexts.f k y413 l3).bind fun t421 => (foghornlaw19_ReedMessages.j0 k a0 a1 a2 bt402.1 bt406.1 (!t421))) else (foghornlaw19_ReedMessages.j0 k a0 a1 a2 bt402.1 bt406.1 true)) else (foghornlaw19_ReedMessages.j0 k a0 a1 a2 bt402.1 bt406.1 true)) else (foghornlaw19_ReedMessages.j0 k a0 a1 a2 bt402.1 bt406.1 true)) else (foghornlaw19_ReedMessages.j0 k a0 a1 a2 bt402.1 bt406.1 true)))))) else (none))))) = some r := h
 clear h
 replace H := Option.bind_eq_some_iff.mp H
 obtain ⟨⟨t402, t403⟩, A50, H⟩ := H
 replace H : ((foghornref19_Words.f k a0 a1 a2).bind fun bt406 => ((some (([] : List ByteArray) : List ByteArray)).bind fun y410 => (if y410.length + l3.length < 8796093022208 then ((some (y410 ++ l3 : List ByteArray)).bind fun y413 => ((reed_Message.f k y413 a2).bind fun bt416 => ((foghornref19_Message.f k l3 a2).bind fun bt418 => ((foghornlaw19_sameTexts.f k t402 bt406.1).bind fun t420 => (if t420 = true then (if t403 = bt406.2 then (if bt416.1.toList = bt418.1.toList then (if bt416.2 = bt418.2 then ((foghornlaw19_sameTexts.f k y413 l3).bind fun t421 => (foghornlaw19_ReedMessages.j0 k a0 a1 a2 t402 bt406.1 (!t421))) else (foghornlaw19_ReedMessages.j0 k a0 a1 a2 t402 bt406.1 true)) else (foghornlaw19_ReedMessages.j0 k a0 a1 a2 t402 bt406.1 true)) else (foghornlaw19_ReedMessages.j0 k a0 a1 a2 t402 bt406.1 true)) else (foghornlaw19_ReedMessages.j0 k a0 a1 a2 t402 bt406.1 true)))))) else (none)))) = some r := H
 have A5 := Aside0.mk A50
 clear A50
 replace H := Option.bind_eq_some_iff.mp H
 obtain ⟨⟨t406, t407⟩, A60, H⟩ := H
 replace H : ((some (([] : List ByteArray) : List ByteArray)).bind fun y410 => (if y410.length + l3.length < 8796093022208 then ((some (y410 ++ l3 : List ByteArray)).bind fun y413 => ((reed_Message.f k y413 a2).bind fun bt416 => ((foghornref19_Message.f k l3 a2).bind fun bt418 => ((foghornlaw19_sameTexts.f k t402 t406).bind fun t420 => (if t420 = true then (if t403 = t407 then (if bt416.1.toList = bt418.1.toList then (if bt416.2 = bt418.2 then ((foghornlaw19_sameTexts.f k y413 l3).bind fun t421 => (foghornlaw19_ReedMessages.j0 k a0 a1 a2 t402 t406 (!t421))) else (foghornlaw19_ReedMessages.j0 k a0 a1 a2 t402 t406 true)) else (foghornlaw19_ReedMessages.j0 k a0 a1 a2 t402 t406 true)) else (foghornlaw19_ReedMessages.j0 k a0 a1 a2 t402 t406 true)) else (foghornlaw19_ReedMessages.j0 k a0 a1 a2 t402 t406 true)))))) else (none))) = some r := H
 have A6 := Aside0.mk A60
 clear A60
 obtain ⟨y410, hy410⟩ : ∃ y_ : List ByteArray, y_ = (([] : List ByteArray)) := ⟨_, rfl⟩
 replace H : (if y410.length + l3.length < 8796093022208 then ((some (y410 ++ l3 : List ByteArray)).bind fun y413 => ((reed_Message.f k y413 a2).bind fun bt416 => ((foghornref19_Message.f k l3 a2).bind fun bt418 => ((foghornlaw19_sameTexts.f k t402 t406).bind fun t420 => (if t420 = true then (if t403 = t407 then (if bt416.1.toList = bt418.1.toList then (if bt416.2 = bt418.2 then ((foghornlaw19_sameTexts.f k y413 l3).bind fun t421 => (foghornlaw19_ReedMessages.j0 k a0 a1 a2 t402 t406 (!t421))) else (foghornlaw19_ReedMessages.j0 k a0 a1 a2 t402 t406 true)) else (foghornlaw19_ReedMessages.j0 k a0 a1 a2 t402 t406 true)) else (foghornlaw19_ReedMessages.j0 k a0 a1 a2 t402 t406 true)) else (foghornlaw19_ReedMessages.j0 k a0 a1 a2 t402 t406 true)))))) else (none)) = some r := by first | (rw [hy410]; with_reducible exact H) | (have H2_ := (Option.bind_some _ _).symm.trans H; rw [hy410]; with_reducible exact H2_) | (have H2_ := (Option.bind_some _ _).symm.trans H; with_reducible exact H2_) | with_reducible exact H | (rw [hy410]; exact H) | exact H
 have Ny410 := Aside0.mk hy410
 clear hy410
 by_cases c7 : y410.length + l3.length < 8796093022208
 ·rw [if_pos c7] at H
  have LMc7 := Aside0.mk c7
  clear c7
  obtain ⟨y413, hy413⟩ : ∃ y_ : List ByteArray, y_ = (y410 ++ l3) := ⟨_, rfl⟩
  replace H : ((reed_Message.f k y413 a2).bind fun bt416 => ((foghornref19_Message.f k l3 a2).bind fun bt418 => ((foghornlaw19_sameTexts.f k t402 t406).bind fun t420 => (if t420 = true then (if t403 = t407 then (if bt416.1.toList = bt418.1.toList then (if bt416.2 = bt418.2 then ((foghornlaw19_sameTexts.f k y413 l3).bind fun t421 => (foghornlaw19_ReedMessages.j0 k a0 a1 a2 t402 t406 (!t421))) else (foghornlaw19_ReedMessages.j0 k a0 a1 a2 t402 t406 true)) else (foghornlaw19_ReedMessages.j0 k a0 a1 a2 t402 t406 true)) else (foghornlaw19_ReedMessages.j0 k a0 a1 a2 t402 t406 true)) else (foghornlaw19_ReedMessages.j0 k a0 a1 a2 t402 t406 true))))) = some r := by first | (rw [hy413]; with_reducible exact H) | (have H2_ := (Option.bind_some _ _).symm.trans H; rw [hy413]; with_reducible exact H2_) | (have H2_ := (Option.bind_some _ _).symm.trans H; with_reducible exact H2_) | with_reducible exact H | (rw [hy413]; exact H) | exact H
  have Ny413 := Aside0.mk hy413
  clear hy413
  replace H := Option.bind_eq_some_iff.mp H
  obtain ⟨⟨t416, t417⟩, A80, H⟩ := H
  replace H : ((foghornref19_Message.f k l3 a2).bind fun bt418 => ((foghornlaw19_sameTexts.f k t402 t406).bind fun t420 => (if t420 = true then (if t403 = t407 then (if t416.toList = bt418.1.toList then (if t417 = bt418.2 then ((foghornlaw19_sameTexts.f k y413 l3).bind fun t421 => (foghornlaw19_ReedMessages.j0 k a0 a1 a2 t402 t406 (!t421))) else (foghornlaw19_ReedMessages.j0 k a0 a1 a2 t402 t406 true)) else (foghornlaw19_ReedMessages.j0 k a0 a1 a2 t402 t406 true)) else (foghornlaw19_ReedMessages.j0 k a0 a1 a2 t402 t406 true)) else (foghornlaw19_ReedMessages.j0 k a0 a1 a2 t402 t406 true)))) = some r := H
  have A8 := Aside0.mk A80
  clear A80
  replace H := Option.bind_eq_some_iff.mp H
  obtain ⟨⟨t418, t419⟩, A90, H⟩ := H
  replace H : ((foghornlaw19_sameTexts.f k t402 t406).bind fun t420 => (if t420 = true then (if t403 = t407 then (if t416.toList = t418.toList then (if t417 = t419 then ((foghornlaw19_sameTexts.f k y413 l3).bind fun t421 => (foghornlaw19_ReedMessages.j0 k a0 a1 a2 t402 t406 (!t421))) else (foghornlaw19_ReedMessages.j0 k a0 a1 a2 t402 t406 true)) else (foghornlaw19_ReedMessages.j0 k a0 a1 a2 t402 t406 true)) else (foghornlaw19_ReedMessages.j0 k a0 a1 a2 t402 t406 true)) else (foghornlaw19_ReedMessages.j0 k a0 a1 a2 t402 t406 true))) = some r := H
  have A9 := Aside0.mk A90
  clear A90
  have HC10 := Aside0.mk H
  clear H
  go_enter Try.func8, Try.ntmps8
  go_upto_region 6 with (first | ((with_reducible refine gate_callee (f := 31) rfl ?_); refine goesL_ (some 25) rfl rfl Try.func31 (by kernel_rfl) rfl #[.string a0, .int .i64 a1, .int .i64 a2] rfl (by (try simp only [List.map_toArray, List.map_cons, List.map_nil]); first | done | rfl | (simp only [List.length_drop, List.length_take]; rfl)) ?_; (with_reducible refine (reed_Words.calls k a0 a1 a2 t402 t403 _ A5.out).mono ?_); rintro e w11 ⟨v404, rfl, ho0, hb⟩; refine ⟨_, rfl, ?_⟩; have n0_ := Aside0.mk (Kd.R_lower ho0 (below_size (by repeat (first | (with_reducible first | exact HB.out | apply below_alloc | apply pw_below_drewN | apply below_drew1) | exact HB.out)))); have n1_ := Aside0.mk (below_step (by repeat (first | (with_reducible first | exact HB.out | apply below_alloc | apply pw_below_drewN | apply below_drew1) | exact HB.out)) hb); clear HB; have HO405 := n0_; have HB := n1_; clear n0_ n1_; (try clear hb); (try clear hb2); (try clear hk); (try clear hi); (try clear ho0)) | ((with_reducible refine gate_callee (f := 35) rfl ?_); refine goesL_ (some 32) rfl rfl Try.func35 (by kernel_rfl) rfl #[.string a0, .int .i64 a1, .int .i64 a2] rfl (by (try simp only [List.map_toArray, List.map_cons, List.map_nil]); first | done | rfl | (simp only [List.length_drop, List.length_take]; rfl)) ?_; (with_reducible refine (foghornref19_Words.calls k a0 a1 a2 t406 t407 _ A6.out).mono ?_); rintro e w12 ⟨v408, rfl, ho0, hb⟩; refine ⟨_, rfl, ?_⟩; have n0_ := Aside0.mk (Kd.R_elder' (by (with_reducible repeat (first | apply Kd.R_alloc | apply Kd.R_drewN | apply Kd.R_drew)); exact HO405.out) (Kd.R_base ho0) hb); have n1_ := Aside0.mk (Kd.R_lower (Kd.R_new' ho0 (Kd.R_lt (by (with_reducible repeat (first | apply Kd.R_alloc | apply Kd.R_drewN | apply Kd.R_drew)); exact HO405.out))) (below_size (by repeat (first | (with_reducible first | exact HB.out | apply below_alloc | apply pw_below_drewN | apply below_drew1) | exact HB.out)))); have n2_ := Aside0.mk (below_step (by repeat (first | (with_reducible first | exact HB.out | apply below_alloc | apply pw_below_drewN | apply below_drew1) | exact HB.out)) hb); clear HO405; clear HB; have HO405 := n0_; have HO409 := n1_; have HB := n2_; clear n0_ n1_ n2_; (try clear hb); (try clear hb2); (try clear hk); (try clear hi); (try clear ho0)) | ((with_reducible refine gate_dst (N := 35) rfl ?_); refine Kd.R_lit Kd.string _ 9 ?hg (N := 35) ?hd (xs := ([] : List ByteArray)) (inner := []) (ok := fun _ => True) (okp := fun _ => True) ?hr ?hp (fun _ hk => hk) trivial (Below.refl _ _) (Nat.le_refl _) (by simp) ?_; (case hd => rfl); (case hg => rfl); (case hr => first | (go_simp; done) | (go_simp; rfl)); (case hp => exact (Reps.none _ _)); intro v411 w13 ho14 hb hg_ hnew_; clear hg_ hnew_; (first | rw [← Ny410.out] at ho14 | (simp only [Int.reduceToNat] at ho14; rw [← Ny410.out] at ho14)); have n0_ := Aside0.mk (Kd.R_elder' (by (with_reducible repeat (first | apply Kd.R_alloc | apply Kd.R_drewN | apply Kd.R_drew)); exact HO405.out) (Kd.R_base ho14) hb); have n1_ := Aside0.mk (Kd.R_elder' (by (with_reducible repeat (first | apply Kd.R_alloc | apply Kd.R_drewN | apply Kd.R_drew)); exact HO409.out) (Kd.R_base ho14) hb); have n2_ := Aside0.mk (Kd.R_lower (Kd.R_new' (Kd.R_new' ho14 (Kd.R_lt (by (with_reducible repeat (first | apply Kd.R_alloc | apply Kd.R_drewN | apply Kd.R_drew)); exact HO405.out))) (Kd.R_lt (by (with_reducible repeat (first | apply Kd.R_alloc | apply Kd.R_drewN | apply Kd.R_drew)); exact HO409.out))) (below_size (by repeat (first | (with_reducible first | exact HB.out | apply below_alloc | apply pw_below_drewN | apply below_drew1) | exact HB.out)))); have n3_ := Aside0.mk (below_step (by repeat (first | (with_reducible first | exact HB.out | apply below_alloc | apply pw_below_drewN | apply below_drew1) | exact HB.out)) hb); clear HO405; clear HO409; clear HB; have HO405 := n0_; have HO409 := n1_; have HO412 := n2_; have HB := n3_; clear n0_ n1_ n2_ n3_; clear hb ho14) | ((with_reducible refine gate_builtin (b := .append) (xs := #[.tmp 35, .tmp 36]) rfl ?_); at_builtin; refine Kd.R_append_rows Kd.string (w0 := w) w.heap.size rfl (.tmp 35) (.tmp 36) 41 9 (.string ⟨#[]⟩) 16 rfl Try.underlying41 info9 rfl (by decide) (by omega) v411 y410 l3 _ _ _ (fun k_ => some k_ ≠ (v404 : Value).ownBlock ∧ some k_ ≠ (v408 : Value).ownBlock) (fun _ => False) rfl rfl ?aO ?aR (fun _ _ h => h) (fun _ h => h.elim) ?aF ?aB ?aS ?aL ?_; (case aR => repeat (first | exact (Kd.C_below HR3.out HB.out) | (with_reducible refine Kd.C_alloc ?_ _) | (with_reducible refine Kd.C_drewN ?_ _) | (with_reducible refine Kd.C_drew ?_))); (case aB => exact (by repeat (first | (with_reducible first | exact HB.out | apply below_alloc | apply pw_below_drewN | apply below_drew1) | exact HB.out))); (case aF => exact (fun k_ hk => ⟨Kd.fresh' (Kd.R_lt (by (with_reducible repeat (first | apply Kd.R_alloc | apply Kd.R_drewN | apply Kd.R_drew)); exact HO405.out)) k_ hk, Kd.fresh' (Kd.R_lt (by (with_reducible repeat (first | apply Kd.R_alloc | apply Kd.R_drewN | apply Kd.R_drew)); exact HO409.out)) k_ hk⟩)); (case aO => exact (by (with_reducible repeat (first | apply Kd.R_alloc | apply Kd.R_drewN | apply Kd.R_drew)); exact Kd.R_mono HO412.out (fun _ hk => ⟨hk.1.2, hk.2⟩))); (case aS => exact (below_size (by repeat (first | (with_reducible first | exact HB.out | apply below_alloc | apply pw_below_drewN | apply below_drew1) | exact HB.out)))); (case aL => have := LMc7.out; omega); intro v414 w15 ho hb hg hat; rw [← Ny413.out] at ho; have n0_ := Aside0.mk (Kd.R_after (ok := (fun k_ => some k_ ≠ (v408 : Value).ownBlock)) (by (with_reducible repeat (first | apply Kd.R_alloc | apply Kd.R_drewN | apply Kd.R_drew)); exact Kd.R_mono HO405.out (fun _ hk => ⟨hk.1.2, hk.2⟩)) hg hat); have n1_ := Aside0.mk (Kd.R_after (ok := (fun k_ => some k_ ≠ (v404 : Value).ownBlock)) (by (with_reducible repeat (first | apply Kd.R_alloc | apply Kd.R_drewN | apply Kd.R_drew)); exact Kd.R_mono HO409.out (fun _ hk => ⟨hk.1.2, hk.2⟩)) hg hat); have n2_ := Aside0.mk (hb); have n3_ := Aside0.mk (ho); clear HO405; clear HO409; clear HB; clear HO412; have HO405 := n0_; have HO409 := n1_; have HB := n2_; have HO415 := n3_; clear n0_ n1_ n2_ n3_; clear ho hb hg hat; obtain ⟨Ao16, co16, eo16⟩ := Kd.R_slice HO415.out; subst eo16) | ((with_reducible refine gate_callee (f := 32) rfl ?_); refine goesL_ (some 41) rfl rfl Try.func32 (by kernel_rfl) rfl #[.slice Ao16 y413.length co16, .int .i64 a2] rfl (by (try simp only [List.map_toArray, List.map_cons, List.map_nil]); first | done | rfl | (simp only [List.length_drop, List.length_take]; rfl)) ?_; (with_reducible refine (reed_Message.calls k _ _ y413 a2 t416 t417 _ ?side1 ?side2 A8.out).mono ?_); (case side1 => repeat (first | exact (Kd.R_reads' HO415.out).2.2 | (with_reducible refine Kd.C_alloc ?_ _) | (with_reducible refine Kd.C_drewN ?_ _) | (with_reducible refine Kd.C_drew ?_))); (case side2 => exact (Kd.R_reads' HO415.out).2.1); rintro e w17 ⟨rfl, hb⟩; refine ⟨_, rfl, ?_⟩; have n0_ := Aside0.mk (Kd.R_below (by (with_reducible repeat (first | apply Kd.R_alloc | apply Kd.R_drewN | apply Kd.R_drew)); exact HO405.out) hb); have n1_ := Aside0.mk (Kd.R_below (by (with_reducible repeat (first | apply Kd.R_alloc | apply Kd.R_drewN | apply Kd.R_drew)); exact HO409.out) hb); have n2_ := Aside0.mk (Kd.R_below (by (with_reducible repeat (first | apply Kd.R_alloc | apply Kd.R_drewN | apply Kd.R_drew)); exact HO415.out) hb); have n3_ := Aside0.mk (below_step (by repeat (first | (with_reducible first | exact HB.out | apply below_alloc | apply pw_below_drewN | apply below_drew1) | exact HB.out)) hb); clear HO405; clear HO409; clear HO415; clear HB; have HO405 := n0_; have HO409 := n1_; have HO415 := n2_; have HB := n3_; clear n0_ n1_ n2_ n3_; (try clear hb); (try clear hb2); (try clear hk); (try clear hi)) | ((with_reducible refine gate_callee (f := 36) rfl ?_); refine goesL_ (some 47) rfl rfl Try.func36 (by kernel_rfl) rfl #[.slice A3 l3.length c3, .int .i64 a2] rfl (by (try simp only [List.map_toArray, List.map_cons, List.map_nil]); first | done | rfl | (simp only [List.length_drop, List.length_take]; rfl)) ?_; (with_reducible refine (foghornref19_Message.calls k _ _ l3 a2 t418 t419 _ ?side1 ?side2 A9.out).mono ?_); (case side1 => repeat (first | exact (Kd.C_below HR3.out HB.out) | (with_reducible refine Kd.C_alloc ?_ _) | (with_reducible refine Kd.C_drewN ?_ _) | (with_reducible refine Kd.C_drew ?_))); (case side2 => exact HC3.out); rintro e w18 ⟨rfl, hb⟩; refine ⟨_, rfl, ?_⟩; have n0_ := Aside0.mk (Kd.R_below (by (with_reducible repeat (first | apply Kd.R_alloc | apply Kd.R_drewN | apply Kd.R_drew)); exact HO405.out) hb); have n1_ := Aside0.mk (Kd.R_below (by (with_reducible repeat (first | apply Kd.R_alloc | apply Kd.R_drewN | apply Kd.R_drew)); exact HO409.out) hb); have n2_ := Aside0.mk (Kd.R_below (by (with_reducible repeat (first | apply Kd.R_alloc | apply Kd.R_drewN | apply Kd.R_drew)); exact HO415.out) hb); have n3_ := Aside0.mk (below_step (by repeat (first | (with_reducible first | exact HB.out | apply below_alloc | apply pw_below_drewN | apply below_drew1) | exact HB.out)) hb); clear HO405; clear HO409; clear HO415; clear HB; have HO405 := n0_; have HO409 := n1_; have HO415 := n2_; have HB := n3_; clear n0_ n1_ n2_ n3_; (try clear hb); (try clear hb2); (try clear hk); (try clear hi)))
  (try simp only [Act.put, List.setIfInBounds_toArray, List.set_cons_zero, List.set_cons_succ])
  go_cut [74] (fun v74 wc => ∃ (kq : Nat) (x74_9 : Bool), v74 = .bool x74_9 ∧ Aside0 (foghornlaw19_ReedMessages.j0 kq a0 a1 a2 t402 t406 x74_9 = some r) ∧ Aside0 (kq ≤ k) ∧ Aside0 (Kd.R Kd.string 9 wc w.heap.size (fun k_ => some k_ ≠ (v408 : Value).ownBlock) v404 t402) ∧ Aside0 (Kd.R Kd.string 9 wc w.heap.size (fun k_ => some k_ ≠ (v404 : Value).ownBlock) v408 t406) ∧ Aside0 (Below w.heap.size w wc))
  case first =>
   have H := HC10.out
   clear HC10
   replace H := Option.bind_eq_some_iff.mp H
   obtain ⟨t420, A190, H⟩ := H
   replace H : (if t420 = true then (if t403 = t407 then (if t416.toList = t418.toList then (if t417 = t419 then ((foghornlaw19_sameTexts.f k y413 l3).bind fun t421 => (foghornlaw19_ReedMessages.j0 k a0 a1 a2 t402 t406 (!t421))) else (foghornlaw19_ReedMessages.j0 k a0 a1 a2 t402 t406 true)) else (foghornlaw19_ReedMessages.j0 k a0 a1 a2 t402 t406 true)) else (foghornlaw19_ReedMessages.j0 k a0 a1 a2 t402 t406 true)) else (foghornlaw19_ReedMessages.j0 k a0 a1 a2 t402 t406 true)) = some r := H
   have A19 := Aside0.mk A190
   clear A190
   by_cases c20 : t420 = true
   ·subst c20
    have H1 : (if t403 = t407 then (if t416.toList = t418.toList then (if t417 = t419 then ((foghornlaw19_sameTexts.f k y413 l3).bind fun t421 => (foghornlaw19_ReedMessages.j0 k a0 a1 a2 t402 t406 (!t421))) else (foghornlaw19_ReedMessages.j0 k a0 a1 a2 t402 t406 true)) else (foghornlaw19_ReedMessages.j0 k a0 a1 a2 t402 t406 true)) else (foghornlaw19_ReedMessages.j0 k a0 a1 a2 t402 t406 true)) = some r := by rw [if_pos rfl] at H; exact H
    clear H
    have H := H1
    clear H1
    by_cases c21 : t403 = t407
    ·rw [if_pos c21] at H
     have c21b0 : (t403 == t407) = true := beq_iff_eq.mpr c21
     have c21b1 : (t403 != t407) = false := bne_eq_false_iff_eq.mpr c21
     clear c21
     (first | rw [c21b0] | (simp only [i64_w, i32_w]; rw [c21b0]) | skip)
     by_cases c22 : t416.toList = t418.toList
     ·rw [if_pos c22] at H
      have c22b0 : (t416.toList == t418.toList) = true := beq_iff_eq.mpr c22
      have c22b1 : (t416.toList != t418.toList) = false := bne_eq_false_iff_eq.mpr c22
      clear c22
      by_cases c23 : t417 = t419
      ·rw [if_pos c23] at H
       have c23b0 : (t417 == t419) = true := beq_iff_eq.mpr c23
       have c23b1 : (t417 != t419) = false := bne_eq_false_iff_eq.mpr c23
       clear c23
       replace H := Option.bind_eq_some_iff.mp H
       obtain ⟨t421, A240, H⟩ := H
       replace H : (foghornlaw19_ReedMessages.j0 k a0 a1 a2 t402 t406 (!t421)) = some r := H
       have A24 := Aside0.mk A240
       clear A240
       as_aux_lemma =>
        have H' := Aside0.mk H
        clear H
        obtain ⟨Ao25, co25, eo25⟩ := Kd.R_slice HO405.out
        subst eo25
        obtain ⟨Ao26, co26, eo26⟩ := Kd.R_slice HO409.out
        subst eo26
        go_wp2_with (first | ((with_reducible refine gate_callee (f := 37) rfl ?_); refine goesL_ (some 52) rfl rfl Try.func37 (by kernel_rfl) rfl #[.slice Ao25 t402.length co25, .slice Ao26 t406.length co26] rfl (by (try simp only [List.map_toArray, List.map_cons, List.map_nil]); first | done | rfl | (simp only [List.length_drop, List.length_take]; rfl)) ?_; (with_reducible refine (foghornlaw19_sameTexts.calls k _ _ t402 _ _ t406 true _ ?side1 ?side2 ?side3 ?side4 A19.out).mono ?_); (case side1 => repeat (first | exact (Kd.R_reads' HO405.out).2.2 | (with_reducible refine Kd.C_alloc ?_ _) | (with_reducible refine Kd.C_drewN ?_ _) | (with_reducible refine Kd.C_drew ?_))); (case side2 => exact (Kd.R_reads' HO405.out).2.1); (case side3 => repeat (first | exact (Kd.R_reads' HO409.out).2.2 | (with_reducible refine Kd.C_alloc ?_ _) | (with_reducible refine Kd.C_drewN ?_ _) | (with_reducible refine Kd.C_drew ?_))); (case side4 => exact (Kd.R_reads' HO409.out).2.1); rintro e w' ⟨rfl, ⟨nd, rfl⟩⟩; refine ⟨_, rfl, ?_⟩) | (go_at_call 37; (with_reducible refine (foghornlaw19_sameTexts.calls k _ _ y413 _ _ l3 t421 _ ?side1 ?side2 ?side3 ?side4 A24.out).mono ?_); (case side1 => repeat (first | exact (Kd.R_reads' HO415.out).2.2 | (with_reducible refine Kd.C_alloc ?_ _) | (with_reducible refine Kd.C_drewN ?_ _) | (with_reducible refine Kd.C_drew ?_))); (case side2 => exact (Kd.R_reads' HO415.out).2.1); (case side3 => repeat (first | exact (Kd.C_below HR3.out (by repeat (first | (with_reducible first | exact HB.out | apply below_alloc | apply pw_below_drewN | apply below_drew1) | exact HB.out))) | (with_reducible refine Kd.C_alloc ?_ _) | (with_reducible refine Kd.C_drewN ?_ _) | (with_reducible refine Kd.C_drew ?_))); (case side4 => exact HC3.out); rintro e w' ⟨rfl, ⟨nd, rfl⟩⟩))
        go_meet
        case rel => exact ⟨_, (!t421), (by first | rfl | (simp; done) | (simp [*]; done)), H', ⟨by first | omega | exact Nat.le_refl _⟩, ⟨by (with_reducible repeat (first | apply Kd.R_alloc | apply Kd.R_drewN | apply Kd.R_drew)); exact Kd.R_mono HO405.out (fun _ hk => hk.1)⟩, ⟨by (with_reducible repeat (first | apply Kd.R_alloc | apply Kd.R_drewN | apply Kd.R_drew)); exact Kd.R_mono HO409.out (fun _ hk => hk.1)⟩, ⟨by repeat (first | (with_reducible first | exact HB.out | apply below_alloc | apply pw_below_drewN | apply below_drew1) | exact HB.out)⟩⟩
      ·rw [if_neg c23] at H
       have c23b0 : (t417 == t419) = false := beq_eq_false_iff_ne.mpr c23
       have c23b1 : (t417 != t419) = true := bne_iff_ne.mpr c23
       as_aux_lemma =>
        have H' := Aside0.mk H
        clear H
        obtain ⟨Ao27, co27, eo27⟩ := Kd.R_slice HO405.out
        subst eo27
        obtain ⟨Ao28, co28, eo28⟩ := Kd.R_slice HO409.out
        subst eo28
        go_wp2_with (first | ((with_reducible refine gate_callee (f := 37) rfl ?_); refine goesL_ (some 52) rfl rfl Try.func37 (by kernel_rfl) rfl #[.slice Ao27 t402.length co27, .slice Ao28 t406.length co28] rfl (by (try simp only [List.map_toArray, List.map_cons, List.map_nil]); first | done | rfl | (simp only [List.length_drop, List.length_take]; rfl)) ?_; (with_reducible refine (foghornlaw19_sameTexts.calls k _ _ t402 _ _ t406 true _ ?side1 ?side2 ?side3 ?side4 A19.out).mono ?_); (case side1 => repeat (first | exact (Kd.R_reads' HO405.out).2.2 | (with_reducible refine Kd.C_alloc ?_ _) | (with_reducible refine Kd.C_drewN ?_ _) | (with_reducible refine Kd.C_drew ?_))); (case side2 => exact (Kd.R_reads' HO405.out).2.1); (case side3 => repeat (first | exact (Kd.R_reads' HO409.out).2.2 | (with_reducible refine Kd.C_alloc ?_ _) | (with_reducible refine Kd.C_drewN ?_ _) | (with_reducible refine Kd.C_drew ?_))); (case side4 => exact (Kd.R_reads' HO409.out).2.1); rintro e w' ⟨rfl, ⟨nd, rfl⟩⟩; refine ⟨_, rfl, ?_⟩))
        go_meet
        case rel => exact ⟨_, (true), (by first | rfl | (simp; done) | (simp [*]; done)), H', ⟨by first | omega | exact Nat.le_refl _⟩, ⟨by (with_reducible repeat (first | apply Kd.R_alloc | apply Kd.R_drewN | apply Kd.R_drew)); exact Kd.R_mono HO405.out (fun _ hk => hk.1)⟩, ⟨by (with_reducible repeat (first | apply Kd.R_alloc | apply Kd.R_drewN | apply Kd.R_drew)); exact Kd.R_mono HO409.out (fun _ hk => hk.1)⟩, ⟨by repeat (first | (with_reducible first | exact HB.out | apply below_alloc | apply pw_below_drewN | apply below_drew1) | exact HB.out)⟩⟩
     ·rw [if_neg c22] at H
      have c22b0 : (t416.toList == t418.toList) = false := beq_eq_false_iff_ne.mpr c22
      have c22b1 : (t416.toList != t418.toList) = true := bne_iff_ne.mpr c22
      as_aux_lemma =>
       have H' := Aside0.mk H
       clear H
       obtain ⟨Ao29, co29, eo29⟩ := Kd.R_slice HO405.out
       subst eo29
       obtain ⟨Ao30, co30, eo30⟩ := Kd.R_slice HO409.out
       subst eo30
       go_wp2_with (first | ((with_reducible refine gate_callee (f := 37) rfl ?_); refine goesL_ (some 52) rfl rfl Try.func37 (by kernel_rfl) rfl #[.slice Ao29 t402.length co29, .slice Ao30 t406.length co30] rfl (by (try simp only [List.map_toArray, List.map_cons, List.map_nil]); first | done | rfl | (simp only [List.length_drop, List.length_take]; rfl)) ?_; (with_reducible refine (foghornlaw19_sameTexts.calls k _ _ t402 _ _ t406 true _ ?side1 ?side2 ?side3 ?side4 A19.out).mono ?_); (case side1 => repeat (first | exact (Kd.R_reads' HO405.out).2.2 | (with_reducible refine Kd.C_alloc ?_ _) | (with_reducible refine Kd.C_drewN ?_ _) | (with_reducible refine Kd.C_drew ?_))); (case side2 => exact (Kd.R_reads' HO405.out).2.1); (case side3 => repeat (first | exact (Kd.R_reads' HO409.out).2.2 | (with_reducible refine Kd.C_alloc ?_ _) | (with_reducible refine Kd.C_drewN ?_ _) | (with_reducible refine Kd.C_drew ?_))); (case side4 => exact (Kd.R_reads' HO409.out).2.1); rintro e w' ⟨rfl, ⟨nd, rfl⟩⟩; refine ⟨_, rfl, ?_⟩))
       go_meet
       case rel => exact ⟨_, (true), (by first | rfl | (simp; done) | (simp [*]; done)), H', ⟨by first | omega | exact Nat.le_refl _⟩, ⟨by (with_reducible repeat (first | apply Kd.R_alloc | apply Kd.R_drewN | apply Kd.R_drew)); exact Kd.R_mono HO405.out (fun _ hk => hk.1)⟩, ⟨by (with_reducible repeat (first | apply Kd.R_alloc | apply Kd.R_drewN | apply Kd.R_drew)); exact Kd.R_mono HO409.out (fun _ hk => hk.1)⟩, ⟨by repeat (first | (with_reducible first | exact HB.out | apply below_alloc | apply pw_below_drewN | apply below_drew1) | exact HB.out)⟩⟩
    ·rw [if_neg c21] at H
     have c21b0 : (t403 == t407) = false := beq_eq_false_iff_ne.mpr c21
     have c21b1 : (t403 != t407) = true := bne_iff_ne.mpr c21
     (first | rw [c21b0] | (simp only [i64_w, i32_w]; rw [c21b0]) | skip)
     as_aux_lemma =>
      have H' := Aside0.mk H
      clear H
      obtain ⟨Ao31, co31, eo31⟩ := Kd.R_slice HO405.out
      subst eo31
      obtain ⟨Ao32, co32, eo32⟩ := Kd.R_slice HO409.out
      subst eo32
      go_wp2_with (first | ((with_reducible refine gate_callee (f := 37) rfl ?_); refine goesL_ (some 52) rfl rfl Try.func37 (by kernel_rfl) rfl #[.slice Ao31 t402.length co31, .slice Ao32 t406.length co32] rfl (by (try simp only [List.map_toArray, List.map_cons, List.map_nil]); first | done | rfl | (simp only [List.length_drop, List.length_take]; rfl)) ?_; (with_reducible refine (foghornlaw19_sameTexts.calls k _ _ t402 _ _ t406 true _ ?side1 ?side2 ?side3 ?side4 A19.out).mono ?_); (case side1 => repeat (first | exact (Kd.R_reads' HO405.out).2.2 | (with_reducible refine Kd.C_alloc ?_ _) | (with_reducible refine Kd.C_drewN ?_ _) | (with_reducible refine Kd.C_drew ?_))); (case side2 => exact (Kd.R_reads' HO405.out).2.1); (case side3 => repeat (first | exact (Kd.R_reads' HO409.out).2.2 | (with_reducible refine Kd.C_alloc ?_ _) | (with_reducible refine Kd.C_drewN ?_ _) | (with_reducible refine Kd.C_drew ?_))); (case side4 => exact (Kd.R_reads' HO409.out).2.1); rintro e w' ⟨rfl, ⟨nd, rfl⟩⟩; refine ⟨_, rfl, ?_⟩))
      go_meet
      case rel => exact ⟨_, (true), (by first | rfl | (simp; done) | (simp [*]; done)), H', ⟨by first | omega | exact Nat.le_refl _⟩, ⟨by (with_reducible repeat (first | apply Kd.R_alloc | apply Kd.R_drewN | apply Kd.R_drew)); exact Kd.R_mono HO405.out (fun _ hk => hk.1)⟩, ⟨by (with_reducible repeat (first | apply Kd.R_alloc | apply Kd.R_drewN | apply Kd.R_drew)); exact Kd.R_mono HO409.out (fun _ hk => hk.1)⟩, ⟨by repeat (first | (with_reducible first | exact HB.out | apply below_alloc | apply pw_below_drewN | apply below_drew1) | exact HB.out)⟩⟩
   ·replace c20 := Bool.eq_false_iff.mpr c20
    subst c20
    have H1 : (foghornlaw19_ReedMessages.j0 k a0 a1 a2 t402 t406 true) = some r := by rw [if_neg (show ¬ (false = true) by decide)] at H; exact H
    clear H
    have H := H1
    clear H1
    as_aux_lemma =>
     have H' := Aside0.mk H
     clear H
     obtain ⟨Ao33, co33, eo33⟩ := Kd.R_slice HO405.out
     subst eo33
     obtain ⟨Ao34, co34, eo34⟩ := Kd.R_slice HO409.out
     subst eo34
     go_wp2_with (first | ((with_reducible refine gate_callee (f := 37) rfl ?_); refine goesL_ (some 52) rfl rfl Try.func37 (by kernel_rfl) rfl #[.slice Ao33 t402.length co33, .slice Ao34 t406.length co34] rfl (by (try simp only [List.map_toArray, List.map_cons, List.map_nil]); first | done | rfl | (simp only [List.length_drop, List.length_take]; rfl)) ?_; (with_reducible refine (foghornlaw19_sameTexts.calls k _ _ t402 _ _ t406 false _ ?side1 ?side2 ?side3 ?side4 A19.out).mono ?_); (case side1 => repeat (first | exact (Kd.R_reads' HO405.out).2.2 | (with_reducible refine Kd.C_alloc ?_ _) | (with_reducible refine Kd.C_drewN ?_ _) | (with_reducible refine Kd.C_drew ?_))); (case side2 => exact (Kd.R_reads' HO405.out).2.1); (case side3 => repeat (first | exact (Kd.R_reads' HO409.out).2.2 | (with_reducible refine Kd.C_alloc ?_ _) | (with_reducible refine Kd.C_drewN ?_ _) | (with_reducible refine Kd.C_drew ?_))); (case side4 => exact (Kd.R_reads' HO409.out).2.1); rintro e w' ⟨rfl, ⟨nd, rfl⟩⟩; refine ⟨_, rfl, ?_⟩))
     go_meet
     case rel => exact ⟨_, (true), (by first | rfl | (simp; done) | (simp [*]; done)), H', ⟨by first | omega | exact Nat.le_refl _⟩, ⟨by (with_reducible repeat (first | apply Kd.R_alloc | apply Kd.R_drewN | apply Kd.R_drew)); exact Kd.R_mono HO405.out (fun _ hk => hk.1)⟩, ⟨by (with_reducible repeat (first | apply Kd.R_alloc | apply Kd.R_drewN | apply Kd.R_drew)); exact Kd.R_mono HO409.out (fun _ hk => hk.1)⟩, ⟨by repeat (first | (with_reducible first | exact HB.out | apply below_alloc | apply pw_below_drewN | apply below_drew1) | exact HB.out)⟩⟩
  case rest =>
   clear HC10
   try clear c2
   try clear p2
   try clear c3
   try clear c7
   try clear c8
   try clear c20
   try clear c21
   try clear c21b0
   try clear c21b1
   try clear c22
   try clear c22b0
   try clear c22b1
   try clear c23
   try clear c23b0
   try clear c23b1
   try clear c31
   try clear c32
   obtain ⟨kq, x74_9, rfl, HA, HJ9, HO_9, HO_11, HB⟩ := hcut
   cases kq with
   | zero => exact absurd HA.out (by simp [foghornlaw19_ReedMessages.j0])
   | succ kj9 =>
    have H := HA.out
    clear HA
    simp only [foghornlaw19_ReedMessages.j0] at H
    by_cases c35 : x74_9 = true
    ·subst c35
     have H1 : (some false) = some r := by rw [if_pos rfl] at H; exact H
     clear H
     have H := H1
     clear H1
     as_aux_lemma =>
      exact absurd ((Option.some.inj H).trans HQ_.out) (by decide)
    ·replace c35 := Bool.eq_false_iff.mpr c35
     subst c35
     have H1 : (foghornlaw19_ReedMessages.l0 kj9 a0 a1 a2 t402 t406 0) = some r := by rw [if_neg (show ¬ (false = true) by decide)] at H; exact H
     clear H
     have H := H1
     clear H1
     have H' := Aside0.mk H
     clear H
     go_wp2
     go_loopg [18] kj9 (fun kq v18 w' => ∃ (x9_2 : List ByteArray) (x18_2 : Int), v18 = .int .i64 x18_2 ∧ Aside0 (foghornlaw19_ReedMessages.l0 kq a0 a1 a2 x9_2 t406 x18_2 = some r) ∧ Aside0 (kq ≤ kj9) ∧ Aside0 (Kd.R Kd.string 9 w' w.heap.size (fun k_ => some k_ ≠ (v408 : Value).ownBlock) v404 x9_2) ∧ Aside0 (Kd.R Kd.string 9 w' w.heap.size (fun k_ => some k_ ≠ (v404 : Value).ownBlock) v408 t406) ∧ Aside0 (Below w.heap.size w w'))
     case atStart => exact ⟨(t402), (0), (by first | rfl | (simp; done) | (simp [*]; done)), H', ⟨Nat.le_refl _⟩, ⟨by (with_reducible repeat (first | apply Kd.R_alloc | apply Kd.R_drewN | apply Kd.R_drew)); exact HO_9.out⟩, ⟨by (with_reducible repeat (first | apply Kd.R_alloc | apply Kd.R_drewN | apply Kd.R_drew)); exact HO_11.out⟩, ⟨by repeat (first | (with_reducible first | exact HB.out | apply below_alloc | apply pw_below_drewN | apply below_drew1) | exact HB.out)⟩⟩
     case round =>
      clear H'
      try clear c2
      try clear p2
      try clear c3
      try clear c7
      try clear c8
      try clear c20
      try clear c21
      try clear c21b0
      try clear c21b1
      try clear c22
      try clear c22b0
      try clear c22b1
      try clear c23
      try clear c23b0
      try clear c23b1
      try clear c31
      try clear c32
      try clear c35
      try clear p2
      obtain ⟨x9_2, x18_2, rfl, HA, HK2, HO_9, HO_11, HB⟩ := hrel
      cases gk with
      | zero => exact absurd HA.out (by simp [foghornlaw19_ReedMessages.l0])
      | succ k2 =>
       have H := HA.out
       clear HA
       simp only [foghornlaw19_ReedMessages.l0] at H
       by_cases c36 : x18_2 < (x9_2.length : Int)
       ·rw [if_pos c36] at H
        have c36b0 : decide (x18_2 < (x9_2.length : Int)) = true := decide_eq_true c36
        clear c36
        by_cases c37 : 0 ≤ x18_2
        ·rw [if_pos c37] at H
         have c37b0 : decide (0 ≤ x18_2) = true := decide_eq_true c37
         clear c37
         obtain ⟨y422, hy422⟩ : ∃ y_ : List ByteArray, y_ = (x9_2.set (x18_2 : Int).toNat (⟨#[120]⟩ : ByteArray)) := ⟨_, rfl⟩
         replace H : (foghornlaw19_ReedMessages.l0 k2 a0 a1 a2 y422 t406 (wrap64 (x18_2 + 1))) = some r := by first | (rw [hy422]; with_reducible exact H) | (have H2_ := (Option.bind_some _ _).symm.trans H; rw [hy422]; with_reducible exact H2_) | (have H2_ := (Option.bind_some _ _).symm.trans H; with_reducible exact H2_) | with_reducible exact H | (rw [hy422]; exact H) | exact H
         have Ny422 := Aside0.mk hy422
         clear hy422
         as_aux_lemma =>
          have H' := Aside0.mk H
          clear H
          obtain ⟨Ao39, co39, eo39⟩ := Kd.R_slice HO_9.out
          subst eo39
          have p38 : 0 ≤ (x18_2 : Int) := of_decide_eq_true (by first | (with_reducible assumption) | assumption)
          have q38 : (x18_2 : Int) < ((x9_2.length : Int) : Int) := of_decide_eq_true (by first | (with_reducible assumption) | assumption)
          obtain ⟨go38, co38, eo38, gb38, gl38, cl38, HG38⟩ := Kd.R_form HO_9.out (by omega)
          (first | cases eo38 | (injection eo38 with ea_ en_ ec_; (first | subst ea_ | (injection ea_ with ea_; subst ea_)); subst ec_; clear en_))
          have GB38 := Aside0.mk gb38
          have GG38 := Aside0.mk HG38
          clear gb38 gl38 HG38
          obtain ⟨hx38_0, hf38_0⟩ := Kd.R_celln (⟨#[]⟩ : ByteArray) HO_9.out (x18_2 : Int) p38 q38
          replace p38 := eq_true p38
          replace q38 := eq_true q38
          have HP40 := Kd.R_putg HO_9.out (x18_2 : Int) (⟨#[120]⟩ : ByteArray)
          go_wp2_with (first | ((with_reducible refine gate_store (t := 9) (p := 83) rfl ?_); refine store_event (t := 9) (p := 83) (v := ?vo_w41) (w1 := (wr.setCell ⟨go38, (x18_2 : Int).toNat, none⟩ (.string (⟨#[120]⟩ : ByteArray)))) ?hg ?ho ?hn ?hr ?_; (case ho => rfl); (case hg => rfl); (case hn => rfl); (case hr => first | (go_simp; done) | (go_simp; rfl)); intro w41 hw; have hg : wr.grownBy w41 (some go38) := (by rw [hw]; exact HP40.2); have hp_ : Kd.R Kd.string 9 w41 w.heap.size (fun k_ => some k_ ≠ (v408 : Value).ownBlock) (.slice (some ⟨go38, 0, none⟩) x9_2.length co39) y422 := (by rw [hw, Ny422.out]; exact HP40.1); clear HP40; have n0_ := Aside0.mk (hp_); have n1_ := Aside0.mk (Kd.R_after (v := (.slice (some ⟨go38, 0, none⟩) x9_2.length co39)) (v1 := (.slice (some ⟨go38, 0, none⟩) x9_2.length co39)) (ok := (fun _ => True)) (by (with_reducible repeat (first | apply Kd.R_alloc | apply Kd.R_drewN | apply Kd.R_drew)); exact Kd.R_mono HO_11.out (fun _ hk => ⟨trivial, hk⟩)) hg (.inl rfl)); have n2_ := Aside0.mk ((by rw [hw]; exact below_set (HB.out) GB38.out : Below w.heap.size w w41)); clear HO_9; clear HO_11; clear HB; have HO_9 := n0_; have HO_11 := n1_; have HB := n2_; clear n0_ n1_ n2_; clear hg hw hp_))
          first | go_roundg k2 | (simp only [add_plain] at *; go_roundg k2)
          case measure => have := HJ9.out; have := HK2.out; omega
          case rel => exact ⟨(y422), (wrap64 (x18_2 + 1)), (by first | rfl | (simp; done) | (simp [*]; done)), H', ⟨by have := HJ9.out; have := HK2.out; omega⟩, ⟨by (with_reducible repeat (first | apply Kd.R_alloc | apply Kd.R_drewN | apply Kd.R_drew)); exact HO_9.out⟩, ⟨by (with_reducible repeat (first | apply Kd.R_alloc | apply Kd.R_drewN | apply Kd.R_drew)); exact Kd.R_mono HO_11.out (fun _ hk => hk.2)⟩, ⟨by repeat (first | (with_reducible first | exact HB.out | apply below_alloc | apply pw_below_drewN | apply below_drew1) | exact HB.out)⟩⟩
        ·rw [if_neg c37] at H
         exact absurd H (by simp)
       ·rw [if_neg c36] at H
        have c36b0 : decide (x18_2 < (x9_2.length : Int)) = false := decide_eq_false c36
        clear c36
        replace H := Option.bind_eq_some_iff.mp H
        obtain ⟨⟨t423, t424⟩, A420, H⟩ := H
        replace H : ((foghornlaw19_sameTexts.f k2 t423 t406).bind fun t427 => (some t427)) = some r := H
        have A42 := Aside0.mk A420
        clear A420
        replace H := Option.bind_eq_some_iff.mp H
        obtain ⟨t427, A430, H⟩ := H
        replace H : (some t427) = some r := H
        have A43 := Aside0.mk A430
        clear A430
        as_aux_lemma =>
         obtain rfl := Option.some.inj H
         obtain ⟨Ao44, co44, eo44⟩ := Kd.R_slice HO_9.out
         subst eo44
         go_wp2_with (first | ((with_reducible refine gate_callee (f := 31) rfl ?_); refine goesL_ (some 88) rfl rfl Try.func31 (by kernel_rfl) rfl #[.string a0, .int .i64 a1, .int .i64 a2] rfl (by (try simp only [List.map_toArray, List.map_cons, List.map_nil]); first | done | rfl | (simp only [List.length_drop, List.length_take]; rfl)) ?_; (with_reducible refine (reed_Words.calls k2 a0 a1 a2 t423 t424 _ A42.out).mono ?_); rintro e w45 ⟨v425, rfl, ho0, hb⟩; refine ⟨_, rfl, ?_⟩; have n0_ := Aside0.mk (Kd.R_elder' (by (with_reducible repeat (first | apply Kd.R_alloc | apply Kd.R_drewN | apply Kd.R_drew)); exact HO_9.out) (Kd.R_base ho0) hb); have n1_ := Aside0.mk (Kd.R_elder' (by (with_reducible repeat (first | apply Kd.R_alloc | apply Kd.R_drewN | apply Kd.R_drew)); exact HO_11.out) (Kd.R_base ho0) hb); have n2_ := Aside0.mk (Kd.R_lower (Kd.R_new' (Kd.R_new' ho0 (Kd.R_lt (by (with_reducible repeat (first | apply Kd.R_alloc | apply Kd.R_drewN | apply Kd.R_drew)); exact HO_9.out))) (Kd.R_lt (by (with_reducible repeat (first | apply Kd.R_alloc | apply Kd.R_drewN | apply Kd.R_drew)); exact HO_11.out))) (below_size (by repeat (first | (with_reducible first | exact HB.out | apply below_alloc | apply pw_below_drewN | apply below_drew1) | exact HB.out)))); have n3_ := Aside0.mk (below_step (by repeat (first | (with_reducible first | exact HB.out | apply below_alloc | apply pw_below_drewN | apply below_drew1) | exact HB.out)) hb); clear HO_9; clear HO_11; clear HB; have HO_9 := n0_; have HO_11 := n1_; have HO426 := n2_; have HB := n3_; clear n0_ n1_ n2_ n3_; (try clear hb); (try clear hb2); (try clear hk); (try clear hi); (try clear ho0); obtain ⟨Ao46, co46, eo46⟩ := Kd.R_slice HO426.out; subst eo46; obtain ⟨Ao47, co47, eo47⟩ := Kd.R_slice HO_11.out; subst eo47) | ((with_reducible refine gate_callee (f := 37) rfl ?_); refine goesL_ (some 93) rfl rfl Try.func37 (by kernel_rfl) rfl #[.slice Ao46 t423.length co46, .slice Ao47 t406.length co47] rfl (by (try simp only [List.map_toArray, List.map_cons, List.map_nil]); first | done | rfl | (simp only [List.length_drop, List.length_take]; rfl)) ?_; (with_reducible refine (foghornlaw19_sameTexts.calls k2 _ _ t423 _ _ t406 t427 _ ?side1 ?side2 ?side3 ?side4 A43.out).mono ?_); (case side1 => repeat (first | exact (Kd.R_reads' HO426.out).2.2 | (with_reducible refine Kd.C_alloc ?_ _) | (with_reducible refine Kd.C_drewN ?_ _) | (with_reducible refine Kd.C_drew ?_))); (case side2 => exact (Kd.R_reads' HO426.out).2.1); (case side3 => repeat (first | exact (Kd.R_reads' HO_11.out).2.2 | (with_reducible refine Kd.C_alloc ?_ _) | (with_reducible refine Kd.C_drewN ?_ _) | (with_reducible refine Kd.C_drew ?_))); (case side4 => exact (Kd.R_reads' HO_11.out).2.1); rintro e w' ⟨rfl, ⟨nd, rfl⟩⟩; refine ⟨_, rfl, ?_⟩))
         go_ret
         exact ⟨by first | rfl | (simp [errW_none, errW_some] <;> rfl) | (simp [*, errW_none, errW_some] <;> rfl), by repeat (first | (with_reducible first | exact HB.out | apply below_alloc | apply pw_below_drewN | apply below_drew1) | exact HB.out)⟩
 ·rw [if_neg c7] at H
  exact absurd H (by simp)

theorem foghornlaw19_ReedMessages.walk (P : foghornlaw19_ReedMessages.Pure) (a0 : ByteArray) (a1 : Int) (a2 : Int) (A3 : Option Addr) (c3 : Nat) (l3 : List ByteArray) (w : World) (hr3 : Kd.C Kd.string w A3 l3.length l3) (hc3 : l3.length ≤ c3) (hw0 : a0.size ≤ 140737488351232) (hw1 : (Lit.int .i64 a1).wf = true) (hw2 : (Lit.int .i64 a2).wf = true) (hw3 : l3.length * 16 ≤ 140737488351232 ∧ ∀ x ∈ l3, (fun y_ : ByteArray => y_.size ≤ 140737488351232) x) (hk_ : (a0.size + 1) + 1 + 1 + ((l3.map (fun y_ : ByteArray => (y_.size + 1))).sum + 1) ≤ 1048576) :
  Calls Try.prog 8 #[.string a0, .int .i64 a1, .int .i64 a2, .slice A3 l3.length c3] w fun e w' => e = .returned (.bool true) ∧ Below w.heap.size w w' := by
 obtain ⟨k, h⟩ := P a0 a1 a2 l3 hw0 hw1 hw2 hw3 hk_
 refine (foghornlaw19_ReedMessages.calls k a0 a1 a2 _ _ l3 true w hr3 hc3 h rfl).mono ?_
 rintro e w' ⟨rfl, hd⟩
 exact ⟨rfl, hd⟩

end Go.Proofs.Ytncoakokdajibaa.Q
