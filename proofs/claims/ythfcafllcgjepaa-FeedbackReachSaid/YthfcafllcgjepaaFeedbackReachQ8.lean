import Derived.Test.YthfcafllcgjepaaFeedbackReachK0
import Derived.Test.YthfcafllcgjepaaFeedbackReachF1
import Derived.Test.YthfcafllcgjepaaFeedbackReachQ0
import Derived.Test.YthfcafllcgjepaaFeedbackReachQ1
import Derived.Test.YthfcafllcgjepaaFeedbackReachQ3
import Derived.Test.YthfcafllcgjepaaFeedbackReachQ6
import Derived.Test.YthfcafllcgjepaaFeedbackReachQ7
-- Printed by myprint.py (ours) over the kit's printer, out of the translation.
namespace Go.Proofs.Ythfcafllcgjepaa.Q
open Go.RowKit Go.Proofs.YthfcafllcgjepaaW.PrintWords Go.Proofs.YthfcafllcgjepaaW.PrintLast Go.Proofs.YthfcafllcgjepaaW.PrintMore
attribute [local go_sem] ArrW.ptrOf_slice unary_neg_float unary_neg_complex run_store_float run_store_complex max2_int min2_int max_two min_two max_three min_three max_four min_four   -- for this text's walks alone
set_option linter.unusedVariables false
set_option linter.unusedSimpArgs false
set_option maxHeartbeats 8000000 in
set_option maxRecDepth 100000 in
theorem foghornlaw11_FeedbackReach.calls (k : Nat) (a0 : Int) (A1 : Option Addr) (c1 : Nat) (l1 : List Int) (a2 : Int) (a3 : Int) (A4 : Option Addr) (c4 : Nat) (l4 : List (S174)) (A5 : Option Addr) (c5 : Nat) (l5 : List (S171)) (r : Bool) (w : World) (hr1 : Kd.C (Kd.int .u8) w A1 l1.length l1) (hc1 : l1.length ≤ c1) (hr4 : Kd.C k174 w A4 l4.length l4) (hc4 : l4.length ≤ c4) (hr5 : Kd.C k171 w A5 l5.length l5) (hc5 : l5.length ≤ c5) (h : foghornlaw11_FeedbackReach.f k a0 l1 a2 a3 l4 l5 = some r) (hq_ : r = true) :
  Calls Try.prog 22 #[.int .i64 a0, .slice A1 l1.length c1, .int .i64 a2, .int .i64 a3, .slice A4 l4.length c4, .slice A5 l5.length c5] w fun e w' => e = .returned (.bool r) ∧ Below w.heap.size w w' := by
 have HQ_ := Aside0.mk hq_
 clear hq_
 have hu171 := Try.underlying171
 have hu101 := Try.underlying101
 have HR1 := Aside0.mk hr1
 have HC1 := Aside0.mk hc1
 clear hr1 hc1
 have HR4 := Aside0.mk hr4
 have HC4 := Aside0.mk hc4
 clear hr4 hc4
 have HR5 := Aside0.mk hr5
 have HC5 := Aside0.mk hc5
 clear hr5 hc5
 have HB := Aside0.mk (Below.refl w.heap.size w)
 have H : ((foghornlaw11_awake.f k).bind fun t1236 => (if t1236 = true then ((foghornlaw11_size.f a0).bind fun t1237 => ((foghornlaw11_may.f k a2 a3 l4).bind fun t1238 => ((foghornref04_All.f k t1237).bind fun bt1241 => (if (l1.length : Int) > 300 then (if 300 ≤ (l1.length : Int) then (foghornlaw11_FeedbackReach.j0 k (l1.take 300) l5 t1237 t1238 bt1241.1) else (none)) else (foghornlaw11_FeedbackReach.j0 k l1 l5 t1237 t1238 bt1241.1))))) else (some false))) = some r := h
 clear h
 replace H := Option.bind_eq_some_iff.mp H
 obtain ⟨t1236, A70, H⟩ := H
 replace H : (if t1236 = true then ((foghornlaw11_size.f a0).bind fun t1237 => ((foghornlaw11_may.f k a2 a3 l4).bind fun t1238 => ((foghornref04_All.f k t1237).bind fun bt1241 => (if (l1.length : Int) > 300 then (if 300 ≤ (l1.length : Int) then (foghornlaw11_FeedbackReach.j0 k (l1.take 300) l5 t1237 t1238 bt1241.1) else (none)) else (foghornlaw11_FeedbackReach.j0 k l1 l5 t1237 t1238 bt1241.1))))) else (some false)) = some r := H
 have A7 := Aside0.mk A70
 clear A70
 by_cases c8 : t1236 = true
 ·subst c8
  have H1 : ((foghornlaw11_size.f a0).bind fun t1237 => ((foghornlaw11_may.f k a2 a3 l4).bind fun t1238 => ((foghornref04_All.f k t1237).bind fun bt1241 => (if (l1.length : Int) > 300 then (if 300 ≤ (l1.length : Int) then (foghornlaw11_FeedbackReach.j0 k (l1.take 300) l5 t1237 t1238 bt1241.1) else (none)) else (foghornlaw11_FeedbackReach.j0 k l1 l5 t1237 t1238 bt1241.1))))) = some r := by rw [if_pos rfl] at H; exact H
  clear H
  have H := H1
  clear H1
  replace H := Option.bind_eq_some_iff.mp H
  obtain ⟨t1237, A90, H⟩ := H
  replace H : ((foghornlaw11_may.f k a2 a3 l4).bind fun t1238 => ((foghornref04_All.f k t1237).bind fun bt1241 => (if (l1.length : Int) > 300 then (if 300 ≤ (l1.length : Int) then (foghornlaw11_FeedbackReach.j0 k (l1.take 300) l5 t1237 t1238 bt1241.1) else (none)) else (foghornlaw11_FeedbackReach.j0 k l1 l5 t1237 t1238 bt1241.1)))) = some r := H
  have A9 := Aside0.mk A90
  clear A90
  replace H := Option.bind_eq_some_iff.mp H
  obtain ⟨t1238, A100, H⟩ := H
  replace H : ((foghornref04_All.f k t1237).bind fun bt1241 => (if (l1.length : Int) > 300 then (if 300 ≤ (l1.length : Int) then (foghornlaw11_FeedbackReach.j0 k (l1.take 300) l5 t1237 t1238 bt1241.1) else (none)) else (foghornlaw11_FeedbackReach.j0 k l1 l5 t1237 t1238 bt1241.1))) = some r := H
  have A10 := Aside0.mk A100
  clear A100
  replace H := Option.bind_eq_some_iff.mp H
  obtain ⟨⟨t1241, t1242⟩, A110, H⟩ := H
  replace H : (if (l1.length : Int) > 300 then (if 300 ≤ (l1.length : Int) then (foghornlaw11_FeedbackReach.j0 k (l1.take 300) l5 t1237 t1238 t1241) else (none)) else (foghornlaw11_FeedbackReach.j0 k l1 l5 t1237 t1238 t1241)) = some r := H
  have A11 := Aside0.mk A110
  clear A110
  have HC12 := Aside0.mk H
  clear H
  go_enter Try.func22, Try.ntmps22
  go_upto_if 50 with (first | (go_at_call 88; (with_reducible refine (foghornlaw11_awake.calls k  true _ A7.out).mono ?_); rintro e w13 ⟨rfl, hb⟩; have n0_ := Aside0.mk (below_step (by repeat (first | (with_reducible first | exact HB.out | apply below_alloc | apply pw_below_drewN | apply below_drew1) | exact HB.out)) hb); clear HB; have HB := n0_; clear n0_; (try clear hb); (try clear hb2); (try clear hk); (try clear hi)) | (go_at_call 89; (with_reducible refine (foghornlaw11_size.calls a0 t1237 _ A9.out).mono ?_); rintro e w14 ⟨rfl, hb⟩; have n0_ := Aside0.mk (below_step (by repeat (first | (with_reducible first | exact HB.out | apply below_alloc | apply pw_below_drewN | apply below_drew1) | exact HB.out)) hb); clear HB; have HB := n0_; clear n0_; (try clear hb); (try clear hb2); (try clear hk); (try clear hi)) | (go_at_call 90; (with_reducible refine (foghornlaw11_may.calls k a2 a3 _ _ l4 t1238 _ ?side1 ?side2 A10.out).mono ?_); (case side1 => repeat (first | exact (Kd.C_below HR4.out HB.out) | (with_reducible refine Kd.C_alloc ?_ _) | (with_reducible refine Kd.C_drewN ?_ _) | (with_reducible refine Kd.C_drew ?_))); (case side2 => exact HC4.out); rintro e w15 ⟨v1239, rfl, ho0, hb⟩; have n0_ := Aside0.mk (Kd.R_lower ho0 (below_size (by repeat (first | (with_reducible first | exact HB.out | apply below_alloc | apply pw_below_drewN | apply below_drew1) | exact HB.out)))); have n1_ := Aside0.mk (below_step (by repeat (first | (with_reducible first | exact HB.out | apply below_alloc | apply pw_below_drewN | apply below_drew1) | exact HB.out)) hb); clear HB; have HO1240 := n0_; have HB := n1_; clear n0_ n1_; (try clear hb); (try clear hb2); (try clear hk); (try clear hi); (try clear ho0)) | (go_at_call 98; (with_reducible refine (foghornref04_All.calls k t1237 t1241 t1242 _ A11.out).mono ?_); rintro e w16 ⟨v1243, rfl, ho0, hb⟩; have n0_ := Aside0.mk (Kd.R_elder' (by (with_reducible repeat (first | apply Kd.R_alloc | apply Kd.R_drewN | apply Kd.R_drew)); exact HO1240.out) (Kd.R_base ho0) hb); have n1_ := Aside0.mk (Kd.R_lower (Kd.R_new' ho0 (Kd.R_lt (by (with_reducible repeat (first | apply Kd.R_alloc | apply Kd.R_drewN | apply Kd.R_drew)); exact HO1240.out))) (below_size (by repeat (first | (with_reducible first | exact HB.out | apply below_alloc | apply pw_below_drewN | apply below_drew1) | exact HB.out)))); have n2_ := Aside0.mk (below_step (by repeat (first | (with_reducible first | exact HB.out | apply below_alloc | apply pw_below_drewN | apply below_drew1) | exact HB.out)) hb); clear HO1240; clear HB; have HO1240 := n0_; have HO1244 := n1_; have HB := n2_; clear n0_ n1_ n2_; (try clear hb); (try clear hb2); (try clear hk); (try clear hi); (try clear ho0)))
  (try simp only [Act.put, List.setIfInBounds_toArray, List.set_cons_zero, List.set_cons_succ])
  go_cut [1] (fun v1 wc => ∃ (kq : Nat) (x1_11 : List Int) (A9001 : Option Addr) (c9001 : Nat), v1 = .slice A9001 x1_11.length c9001 ∧ Aside0 (foghornlaw11_FeedbackReach.j0 kq x1_11 l5 t1237 t1238 t1241 = some r) ∧ Aside0 (kq ≤ k) ∧ Aside0 (Kd.C (Kd.int .u8) w A9001 x1_11.length x1_11) ∧ Aside0 (x1_11.length ≤ c9001) ∧ Aside0 (Kd.R Kd.cplx 32 wc w.heap.size (fun k_ => some k_ ≠ (v1243 : Value).ownBlock) v1239 t1238) ∧ Aside0 (Kd.R Kd.cplx 32 wc w.heap.size (fun k_ => some k_ ≠ (v1239 : Value).ownBlock) v1243 t1241) ∧ Aside0 (Below w.heap.size w wc))
  case first =>
   have H := HC12.out
   clear HC12
   by_cases c17 : (l1.length : Int) > 300
   ·rw [if_pos c17] at H
    have c17b0 : decide (300 < (l1.length : Int)) = true := decide_eq_true c17
    have c17b1 : decide (300 < l1.length) = true := decide_eq_true (by omega)
    clear c17
    (first | rw [c17b0] | (simp only [i64_w, i32_w]; rw [c17b0]) | skip)
    by_cases c18 : 300 ≤ (l1.length : Int)
    ·rw [if_pos c18] at H
     have c18b0 := eq_true c18
     have c18b1 : decide (300 ≤ (l1.length : Int)) = true := decide_eq_true c18
     clear c18
     as_aux_lemma =>
      have H' := Aside0.mk H
      clear H
      obtain ⟨i019, hi019, _, hsz19, _⟩ := info_parts info5
      obtain ⟨hcut19, hA19, hC19⟩ := print_take_of (P := Try.prog) (Value.int .u8) 0 88 5 .i64 Try.underlying88 hi019 hsz19 A1 c1 l1 300 (by omega) (of_decide_eq_true (by first | (with_reducible assumption) | assumption)) HC1.out
      have HR1245 := Aside0.mk (Kd.C_of_reads (h1 := fun _ => rfl) (hA19 _ (Kd.reads_of_C HR1.out)))
      have HC1245 := Aside0.mk hC19
      clear hA19 hC19 hi019 hsz19
      go_wp2
      go_meet
      case rel => exact ⟨_, (l1.take 300), A1, c1, (by first | rfl | (rw [show (l1.take 300).length = 300 from (by rw [List.length_take]; have h_ : (300 : Int) ≤ (l1.length : Int) := (by first | exact of_decide_eq_true (by first | (with_reducible assumption) | assumption)); omega)]; first | done | rfl) | (simp; done)), H', ⟨by first | omega | exact Nat.le_refl _⟩, ⟨HR1245.out⟩, ⟨HC1245.out⟩, ⟨by (with_reducible repeat (first | apply Kd.R_alloc | apply Kd.R_drewN | apply Kd.R_drew)); exact Kd.R_mono HO1240.out (fun _ hk => hk.2)⟩, ⟨by (with_reducible repeat (first | apply Kd.R_alloc | apply Kd.R_drewN | apply Kd.R_drew)); exact Kd.R_mono HO1244.out (fun _ hk => hk.2)⟩, ⟨by repeat (first | (with_reducible first | exact HB.out | apply below_alloc | apply pw_below_drewN | apply below_drew1) | exact HB.out)⟩⟩
    ·rw [if_neg c18] at H
     exact absurd H (by simp)
   ·rw [if_neg c17] at H
    have c17b0 : decide (300 < (l1.length : Int)) = false := decide_eq_false c17
    have c17b1 : decide (300 < l1.length) = false := decide_eq_false (by omega)
    clear c17
    (first | rw [c17b0] | (simp only [i64_w, i32_w]; rw [c17b0]) | skip)
    as_aux_lemma =>
     have H' := Aside0.mk H
     clear H
     go_wp2
     go_meet
     case rel => exact ⟨_, (l1), A1, c1, (by first | rfl | (simp; done)), H', ⟨by first | omega | exact Nat.le_refl _⟩, ⟨HR1.out⟩, ⟨HC1.out⟩, ⟨by (with_reducible repeat (first | apply Kd.R_alloc | apply Kd.R_drewN | apply Kd.R_drew)); exact Kd.R_mono HO1240.out (fun _ hk => hk.2)⟩, ⟨by (with_reducible repeat (first | apply Kd.R_alloc | apply Kd.R_drewN | apply Kd.R_drew)); exact Kd.R_mono HO1244.out (fun _ hk => hk.2)⟩, ⟨by repeat (first | (with_reducible first | exact HB.out | apply below_alloc | apply pw_below_drewN | apply below_drew1) | exact HB.out)⟩⟩
  case rest =>
   clear HC12
   try clear c1
   try clear c2
   try clear p2
   try clear c4
   try clear c5
   try clear c8
   try clear c9
   try clear c17
   try clear c17b0
   try clear c17b1
   try clear c18
   try clear c18b0
   try clear c18b1
   obtain ⟨kq, x1_11, A9001, c9001, rfl, HA, HJ11, HR9001, HC9001, HO_14, HO_15, HB⟩ := hcut
   cases kq with
   | zero => exact absurd HA.out (by simp [foghornlaw11_FeedbackReach.j0])
   | succ kj11 =>
    have H := HA.out
    clear HA
    simp only [foghornlaw11_FeedbackReach.j0] at H
    have H' := Aside0.mk H
    clear H
    go_wp2
    go_loopg [17, 18] kj11 (fun kq v17 v18 w' => ∃ (x17_2 : List (Nat × Nat)) (x18_2 : Int), v18 = .int .i64 x18_2 ∧ Aside0 (foghornlaw11_FeedbackReach.l0 kq x1_11 l5 t1237 t1238 t1241 x17_2 x18_2 = some r) ∧ Aside0 (kq ≤ kj11) ∧ Aside0 (Kd.R Kd.cplx 32 w' w.heap.size (fun k_ => some k_ ≠ (v1243 : Value).ownBlock ∧ some k_ ≠ (v17 : Value).ownBlock) v1239 t1238) ∧ Aside0 (Kd.R Kd.cplx 32 w' w.heap.size (fun k_ => some k_ ≠ (v1239 : Value).ownBlock ∧ some k_ ≠ (v17 : Value).ownBlock) v1243 t1241) ∧ Aside0 (Kd.R Kd.cplx 32 w' w.heap.size (fun k_ => some k_ ≠ (v1239 : Value).ownBlock ∧ some k_ ≠ (v1243 : Value).ownBlock) v17 x17_2) ∧ Aside0 (Below w.heap.size w w'))
    case atStart => exact ⟨(([] : List (Nat × Nat))), (0), (by first | rfl | (simp; done) | (simp [*]; done)), H', ⟨Nat.le_refl _⟩, ⟨by (with_reducible repeat (first | apply Kd.R_alloc | apply Kd.R_drewN | apply Kd.R_drew)); exact Kd.R_mono HO_14.out (fun _ hk => ⟨hk, (by simp [Value.ownBlock])⟩)⟩, ⟨by (with_reducible repeat (first | apply Kd.R_alloc | apply Kd.R_drewN | apply Kd.R_drew)); exact Kd.R_mono HO_15.out (fun _ hk => ⟨hk, (by simp [Value.ownBlock])⟩)⟩, ⟨by first | exact Kd.R_nil _ _ _ _ _ | exact Kd.N_nil _ _ _ _ _ | exact Kd.V_nil _ _ _ _ _ | exact Kd.Q_nil _ _ _ _ _ | exact Kd.S_nil _ _ _ _ _⟩, ⟨by repeat (first | (with_reducible first | exact HB.out | apply below_alloc | apply pw_below_drewN | apply below_drew1) | exact HB.out)⟩⟩
    case round =>
     clear H'
     try clear c1
     try clear c2
     try clear p2
     try clear c4
     try clear c5
     try clear c8
     try clear c9
     try clear c17
     try clear c17b0
     try clear c17b1
     try clear c18
     try clear c18b0
     try clear c18b1
     try clear p2
     obtain ⟨x17_2, x18_2, rfl, HA, HK2, HO_14, HO_15, HO_17, HB⟩ := hrel
     cases gk with
     | zero => exact absurd HA.out (by simp [foghornlaw11_FeedbackReach.l0])
     | succ k2 =>
      have H := HA.out
      clear HA
      simp only [foghornlaw11_FeedbackReach.l0] at H
      by_cases c20 : x18_2 < (x1_11.length : Int)
      ·rw [if_pos c20] at H
       have c20b0 : decide (x18_2 < (x1_11.length : Int)) = true := decide_eq_true c20
       clear c20
       by_cases c21 : 0 ≤ x18_2
       ·rw [if_pos c21] at H
        have c21b0 : decide (0 ≤ x18_2) = true := decide_eq_true c21
        clear c21
        by_cases c22 : t1237 = 0
        ·rw [if_pos c22] at H
         exact absurd H (by simp)
        ·rw [if_neg c22] at H
         have c22b0 : (t1237 == 0) = false := beq_eq_false_iff_ne.mpr c22
         have c22b1 : (t1237 != 0) = true := bne_iff_ne.mpr c22
         obtain ⟨ji23, hji23⟩ : ∃ j_ : Int, (Int.tmod (wrap64 (rd x1_11 x18_2)) t1237) = j_ := ⟨_, rfl⟩
         replace H : (if 0 ≤ (ji23) then (if (ji23) < (t1241.length : Int) then (if x17_2.length < 8796093022208 then (foghornlaw11_FeedbackReach.l0 k2 x1_11 l5 t1237 t1238 t1241 (x17_2 ++ [rdOf (0, 0) t1241 (ji23)]) (wrap64 (x18_2 + 1))) else (none)) else (none)) else (none)) = some r := by first | (rw [hji23] at H; exact H) | (simp only [hji23] at H ⊢; exact H)
         by_cases c24 : 0 ≤ (ji23)
         ·rw [if_pos c24] at H
          have c24b0 : decide (0 ≤ (ji23)) = true := decide_eq_true c24
          clear c24
          by_cases c25 : (ji23) < (t1241.length : Int)
          ·rw [if_pos c25] at H
           have c25b0 : decide ((ji23) < (t1241.length : Int)) = true := decide_eq_true c25
           clear c25
           by_cases c26 : x17_2.length < 8796093022208
           ·rw [if_pos c26] at H
            have LMc26 := Aside0.mk c26
            clear c26
            obtain ⟨y1248, hy1248⟩ : ∃ y_ : List (Nat × Nat), y_ = (x17_2 ++ [rdOf (0, 0) t1241 (ji23)]) := ⟨_, rfl⟩
            replace H : (foghornlaw11_FeedbackReach.l0 k2 x1_11 l5 t1237 t1238 t1241 y1248 (wrap64 (x18_2 + 1))) = some r := by first | (rw [hy1248]; with_reducible exact H) | (have H2_ := (Option.bind_some _ _).symm.trans H; rw [hy1248]; with_reducible exact H2_) | (have H2_ := (Option.bind_some _ _).symm.trans H; with_reducible exact H2_) | with_reducible exact H | (rw [hy1248]; exact H) | exact H
            have Ny1248 := Aside0.mk hy1248
            clear hy1248
            as_aux_lemma =>
             have H' := Aside0.mk H
             clear H
             have p1246 : 0 ≤ (x18_2 : Int) := of_decide_eq_true (by first | (with_reducible assumption) | assumption)
             have q1246 : x18_2 < (x1_11.length : Int) := of_decide_eq_true (by first | (with_reducible assumption) | assumption)
             obtain ⟨ad1246, e1246, hx1246_0⟩ := Kd.at_int HR9001.out x18_2 p1246 q1246
             cases e1246
             replace hx1246_0 := (HB.out.cell (World.block_lt_of_cell? w _ hx1246_0)).trans hx1246_0
             replace p1246 := eq_true p1246
             replace q1246 := eq_true q1246
             obtain ⟨Ao27, co27, eo27⟩ := Kd.R_slice HO_15.out
             subst eo27
             have p1247 : 0 ≤ ((ji23) : Int) := of_decide_eq_true (by first | (with_reducible assumption) | assumption)
             have q1247 : (ji23) < (t1241.length : Int) := of_decide_eq_true (by first | (with_reducible assumption) | assumption)
             obtain ⟨ad1247, e1247, hx1247_0⟩ := Kd.at_cplx (Kd.R_reads' HO_15.out).2.2 (ji23) p1247 q1247
             cases e1247
             replace p1247 := eq_true p1247
             replace q1247 := eq_true q1247
             go_wp2_with ((with_reducible refine gate_builtin (b := .append) (xs := #[.tmp 59, .tmp 70]) rfl ?_); (try (refine gate_guard (by rfl) ?_; dsimp only)); at_builtin; refine Kd.R_append Kd.cplx (w0 := w) w.heap.size rfl (.tmp 59) (.tmp 70) 24 32 (.complex .f64 0 0) 16 rfl Try.underlying24 info32 rfl (by decide) (by omega) u17 x17_2 (rdOf (0, 0) t1241 (ji23)) [.complex .f64 ((rdOf (0, 0) t1241 (ji23)).1) ((rdOf (0, 0) t1241 (ji23)).2)] (fun k_ => some k_ ≠ (v1239 : Value).ownBlock ∧ some k_ ≠ (.slice (some ad1247) t1241.length co27 : Value).ownBlock) (fun _ => False) rfl rfl ?aP (fun _ hk => hk.elim) ?aF ?aO ?aB ?aS ?aL ?_; (case aP => exact rfl); (case aB => exact (by repeat (first | (with_reducible first | exact HB.out | apply below_alloc | apply pw_below_drewN | apply below_drew1) | exact HB.out))); (case aF => exact (fun k_ hk => ⟨Kd.fresh' (Kd.R_lt (by (with_reducible repeat (first | apply Kd.R_alloc | apply Kd.R_drewN | apply Kd.R_drew)); exact HO_14.out)) k_ hk, Kd.fresh' (Kd.R_lt (by (with_reducible repeat (first | apply Kd.R_alloc | apply Kd.R_drewN | apply Kd.R_drew)); exact HO_15.out)) k_ hk⟩)); (case aO => exact (by (with_reducible repeat (first | apply Kd.R_alloc | apply Kd.R_drewN | apply Kd.R_drew)); exact HO_17.out)); (case aS => exact (below_size (by repeat (first | (with_reducible first | exact HB.out | apply below_alloc | apply pw_below_drewN | apply below_drew1) | exact HB.out)))); (case aL => have := LMc26.out; omega); intro v1249 w28 ho hb hg hat; rw [← Ny1248.out] at ho; have n0_ := Aside0.mk (Kd.R_after (ok := (fun k_ => some k_ ≠ (.slice (some ad1247) t1241.length co27 : Value).ownBlock)) (by (with_reducible repeat (first | apply Kd.R_alloc | apply Kd.R_drewN | apply Kd.R_drew)); exact HO_14.out) hg hat); have n1_ := Aside0.mk (Kd.R_after (ok := (fun k_ => some k_ ≠ (v1239 : Value).ownBlock)) (by (with_reducible repeat (first | apply Kd.R_alloc | apply Kd.R_drewN | apply Kd.R_drew)); exact HO_15.out) hg hat); have n2_ := Aside0.mk (hb); have n3_ := Aside0.mk (ho); clear HO_14; clear HO_15; clear HB; clear HO_17; have HO_14 := n0_; have HO_15 := n1_; have HB := n2_; have HO1250 := n3_; clear n0_ n1_ n2_ n3_; clear ho hb hg hat)
             first | go_roundg k2 | (simp only [add_plain] at *; go_roundg k2)
             case measure => have := HJ11.out; have := HK2.out; omega
             case rel => exact ⟨(y1248), (wrap64 (x18_2 + 1)), (by first | rfl | (simp; done) | (simp [*]; done)), H', ⟨by have := HJ11.out; have := HK2.out; omega⟩, ⟨by (with_reducible repeat (first | apply Kd.R_alloc | apply Kd.R_drewN | apply Kd.R_drew)); exact HO_14.out⟩, ⟨by (with_reducible repeat (first | apply Kd.R_alloc | apply Kd.R_drewN | apply Kd.R_drew)); exact HO_15.out⟩, ⟨by (with_reducible repeat (first | apply Kd.R_alloc | apply Kd.R_drewN | apply Kd.R_drew)); exact HO1250.out⟩, ⟨by repeat (first | (with_reducible first | exact HB.out | apply below_alloc | apply pw_below_drewN | apply below_drew1) | exact HB.out)⟩⟩
           ·rw [if_neg c26] at H
            exact absurd H (by simp)
          ·rw [if_neg c25] at H
           exact absurd H (by simp)
         ·rw [if_neg c24] at H
          exact absurd H (by simp)
       ·rw [if_neg c21] at H
        exact absurd H (by simp)
      ·rw [if_neg c20] at H
       have c20b0 : decide (x18_2 < (x1_11.length : Int)) = false := decide_eq_false c20
       clear c20
       by_cases c29 : 0 < (t1238.length : Int)
       ·rw [if_pos c29] at H
        have c29b0 : decide (0 < (t1238.length : Int)) = true := decide_eq_true c29
        have c29b1 : decide (0 < t1238.length) = true := decide_eq_true (by omega)
        clear c29
        replace H := Option.bind_eq_some_iff.mp H
        obtain ⟨⟨t1252, t1253⟩, A300, H⟩ := H
        replace H : ((floatBits .mul .f64 t1252 4661225614328463360).bind fun t1254 => ((floatToIntVal .f64 t1254 .i32).bind fun t1255 => ((feedback_Echo.f k2 t1238 x17_2).bind fun bt1256 => (if bt1256.2 = 0 then (foghornlaw11_FeedbackReach.j2 k2 x1_11 l5 t1237 t1238 x17_2 t1252 t1253 t1255 bt1256.1 ((bt1256.1.length : Int) != (x17_2.length : Int))) else (foghornlaw11_FeedbackReach.j2 k2 x1_11 l5 t1237 t1238 x17_2 t1252 t1253 t1255 bt1256.1 true))))) = some r := H
        have A30 := Aside0.mk A300
        clear A300
        replace H := Option.bind_eq_some_iff.mp H
        obtain ⟨t1254, A310, H⟩ := H
        replace H : ((floatToIntVal .f64 t1254 .i32).bind fun t1255 => ((feedback_Echo.f k2 t1238 x17_2).bind fun bt1256 => (if bt1256.2 = 0 then (foghornlaw11_FeedbackReach.j2 k2 x1_11 l5 t1237 t1238 x17_2 t1252 t1253 t1255 bt1256.1 ((bt1256.1.length : Int) != (x17_2.length : Int))) else (foghornlaw11_FeedbackReach.j2 k2 x1_11 l5 t1237 t1238 x17_2 t1252 t1253 t1255 bt1256.1 true)))) = some r := H
        have A31 := Aside0.mk A310
        clear A310
        replace H := Option.bind_eq_some_iff.mp H
        obtain ⟨t1255, A320, H⟩ := H
        replace H : ((feedback_Echo.f k2 t1238 x17_2).bind fun bt1256 => (if bt1256.2 = 0 then (foghornlaw11_FeedbackReach.j2 k2 x1_11 l5 t1237 t1238 x17_2 t1252 t1253 t1255 bt1256.1 ((bt1256.1.length : Int) != (x17_2.length : Int))) else (foghornlaw11_FeedbackReach.j2 k2 x1_11 l5 t1237 t1238 x17_2 t1252 t1253 t1255 bt1256.1 true))) = some r := H
        have A32 := Aside0.mk A320
        clear A320
        replace H := Option.bind_eq_some_iff.mp H
        obtain ⟨⟨t1256, t1257⟩, A330, H⟩ := H
        replace H : (if t1257 = 0 then (foghornlaw11_FeedbackReach.j2 k2 x1_11 l5 t1237 t1238 x17_2 t1252 t1253 t1255 t1256 ((t1256.length : Int) != (x17_2.length : Int))) else (foghornlaw11_FeedbackReach.j2 k2 x1_11 l5 t1237 t1238 x17_2 t1252 t1253 t1255 t1256 true)) = some r := H
        have A33 := Aside0.mk A330
        clear A330
        have HC34 := Aside0.mk H
        clear H
        obtain ⟨Ao35, co35, eo35⟩ := Kd.R_slice HO_14.out
        subst eo35
        have p1251 : 0 ≤ (0 : Int) := (by omega)
        have q1251 : 0 < (t1238.length : Int) := of_decide_eq_true (by first | (with_reducible assumption) | assumption)
        obtain ⟨ad1251, e1251, hx1251_0⟩ := Kd.at_cplx (Kd.R_reads' HO_14.out).2.2 0 p1251 q1251
        cases e1251
        have qi1251 : (0 < t1238.length) = True := eq_true (by omega)
        (try rw [show ((0 : Int)).toNat = 0 from rfl] at hx1251_0)
        (try rw [Addr.add_zero'] at hx1251_0)
        replace p1251 := eq_true p1251
        replace q1251 := eq_true q1251
        go_upto_region 16 with (first | (go_at_call 99; (with_reducible refine (foghornref11_First.calls k2 (rdOf (0, 0) t1238 0) t1252 t1253 _ A30.out).mono ?_); rintro e w36 ⟨rfl, hb⟩; have n0_ := Aside0.mk (Kd.R_below (by (with_reducible repeat (first | apply Kd.R_alloc | apply Kd.R_drewN | apply Kd.R_drew)); exact HO_14.out) hb); have n1_ := Aside0.mk (Kd.R_below (by (with_reducible repeat (first | apply Kd.R_alloc | apply Kd.R_drewN | apply Kd.R_drew)); exact HO_15.out) hb); have n2_ := Aside0.mk (Kd.R_below (by (with_reducible repeat (first | apply Kd.R_alloc | apply Kd.R_drewN | apply Kd.R_drew)); exact HO_17.out) hb); have n3_ := Aside0.mk (below_step (by repeat (first | (with_reducible first | exact HB.out | apply below_alloc | apply pw_below_drewN | apply below_drew1) | exact HB.out)) hb); clear HO_14; clear HO_15; clear HO_17; clear HB; have HO_14 := n0_; have HO_15 := n1_; have HO_17 := n2_; have HB := n3_; clear n0_ n1_ n2_ n3_; (try clear hb); (try clear hb2); (try clear hk); (try clear hi); have hfoA31_ := fun (t_ : TypeId) (w_ : World) => run_float_arith (P := Try.prog) w_ .mul t_ .f64 t1252 4661225614328463360 t1254 A31.out; have hfoA32_ := fun (w_ : World) => run_convert_float_int (P := Try.prog) w_ 34 21 .f64 .i32 t1254 t1255 (by rw [Try.underlying34]; rfl) Try.underlying21 A32.out; obtain ⟨Ao37, co37, eo37⟩ := Kd.R_slice HO_17.out; subst eo37) | (go_at_call 26; (with_reducible refine (feedback_Echo.calls k2 _ _ t1238 _ _ x17_2 t1256 t1257 _ ?side1 ?side2 ?side3 ?side4 A33.out).mono ?_); (case side1 => repeat (first | exact (Kd.R_reads' HO_14.out).2.2 | (with_reducible refine Kd.C_alloc ?_ _) | (with_reducible refine Kd.C_drewN ?_ _) | (with_reducible refine Kd.C_drew ?_))); (case side2 => exact (Kd.R_reads' HO_14.out).2.1); (case side3 => repeat (first | exact (Kd.R_reads' HO_17.out).2.2 | (with_reducible refine Kd.C_alloc ?_ _) | (with_reducible refine Kd.C_drewN ?_ _) | (with_reducible refine Kd.C_drew ?_))); (case side4 => exact (Kd.R_reads' HO_17.out).2.1); rintro e w38 ⟨v1258, rfl, ho0, hb⟩; have n0_ := Aside0.mk (Kd.R_elder' (by (with_reducible repeat (first | apply Kd.R_alloc | apply Kd.R_drewN | apply Kd.R_drew)); exact HO_14.out) (Kd.R_base ho0) hb); have n1_ := Aside0.mk (Kd.R_elder' (by (with_reducible repeat (first | apply Kd.R_alloc | apply Kd.R_drewN | apply Kd.R_drew)); exact HO_15.out) (Kd.R_base ho0) hb); have n2_ := Aside0.mk (Kd.R_elder' (by (with_reducible repeat (first | apply Kd.R_alloc | apply Kd.R_drewN | apply Kd.R_drew)); exact HO_17.out) (Kd.R_base ho0) hb); have n3_ := Aside0.mk (Kd.R_lower (Kd.R_new' (Kd.R_new' (Kd.R_new' ho0 (Kd.R_lt (by (with_reducible repeat (first | apply Kd.R_alloc | apply Kd.R_drewN | apply Kd.R_drew)); exact HO_14.out))) (Kd.R_lt (by (with_reducible repeat (first | apply Kd.R_alloc | apply Kd.R_drewN | apply Kd.R_drew)); exact HO_15.out))) (Kd.R_lt (by (with_reducible repeat (first | apply Kd.R_alloc | apply Kd.R_drewN | apply Kd.R_drew)); exact HO_17.out))) (below_size (by repeat (first | (with_reducible first | exact HB.out | apply below_alloc | apply pw_below_drewN | apply below_drew1) | exact HB.out)))); have n4_ := Aside0.mk (below_step (by repeat (first | (with_reducible first | exact HB.out | apply below_alloc | apply pw_below_drewN | apply below_drew1) | exact HB.out)) hb); clear HO_14; clear HO_15; clear HO_17; clear HB; have HO_14 := n0_; have HO_15 := n1_; have HO_17 := n2_; have HO1259 := n3_; have HB := n4_; clear n0_ n1_ n2_ n3_ n4_; (try clear hb); (try clear hb2); (try clear hk); (try clear hi); (try clear ho0)))
        (try simp only [Act.put, List.setIfInBounds_toArray, List.set_cons_zero, List.set_cons_succ])
        go_cut [96] (fun v96 wc => ∃ (kq : Nat) (x96_33 : Bool), v96 = .bool x96_33 ∧ Aside0 (foghornlaw11_FeedbackReach.j2 kq x1_11 l5 t1237 t1238 x17_2 t1252 t1253 t1255 t1256 x96_33 = some r) ∧ Aside0 (kq ≤ k2) ∧ Aside0 (Kd.R Kd.cplx 32 wc w.heap.size (fun k_ => some k_ ≠ ((.slice Ao37 x17_2.length co37) : Value).ownBlock ∧ some k_ ≠ (v1258 : Value).ownBlock) (.slice (some ad1251) t1238.length co35) t1238) ∧ Aside0 (Kd.R Kd.cplx 32 wc w.heap.size (fun k_ => some k_ ≠ ((.slice (some ad1251) t1238.length co35) : Value).ownBlock ∧ some k_ ≠ (v1258 : Value).ownBlock) (.slice Ao37 x17_2.length co37) x17_2) ∧ Aside0 (Kd.R Kd.cplx 32 wc w.heap.size (fun k_ => some k_ ≠ ((.slice (some ad1251) t1238.length co35) : Value).ownBlock ∧ some k_ ≠ ((.slice Ao37 x17_2.length co37) : Value).ownBlock) v1258 t1256) ∧ Aside0 (Below w.heap.size w wc))
        case first =>
         have H := HC34.out
         clear HC34
         by_cases c39 : t1257 = 0
         ·rw [if_pos c39] at H
          have c39b0 : (t1257 == 0) = true := beq_iff_eq.mpr c39
          have c39b1 : (t1257 != 0) = false := bne_eq_false_iff_eq.mpr c39
          clear c39
          (first | rw [c39b0] | (simp only [i64_w, i32_w]; rw [c39b0]) | skip)
          as_aux_lemma =>
           have H' := Aside0.mk H
           clear H
           obtain ⟨Ao40, co40, eo40⟩ := Kd.R_slice HO1259.out
           subst eo40
           go_wp2
           go_meet
           case rel => exact ⟨_, (((t1256.length : Int) != (x17_2.length : Int))), (by first | rfl | (simp; done) | (simp [*]; done)), H', ⟨by have := HJ11.out; have := HK2.out; first | omega | exact Nat.le_refl _⟩, ⟨by (with_reducible repeat (first | apply Kd.R_alloc | apply Kd.R_drewN | apply Kd.R_drew)); exact Kd.R_mono HO_14.out (fun _ hk => ⟨hk.1.2, hk.2⟩)⟩, ⟨by (with_reducible repeat (first | apply Kd.R_alloc | apply Kd.R_drewN | apply Kd.R_drew)); exact Kd.R_mono HO_17.out (fun _ hk => ⟨hk.1.1, hk.2⟩)⟩, ⟨by (with_reducible repeat (first | apply Kd.R_alloc | apply Kd.R_drewN | apply Kd.R_drew)); exact Kd.R_mono HO1259.out (fun _ hk => ⟨hk.1.1.2, hk.2⟩)⟩, ⟨by repeat (first | (with_reducible first | exact HB.out | apply below_alloc | apply pw_below_drewN | apply below_drew1) | exact HB.out)⟩⟩
         ·rw [if_neg c39] at H
          have c39b0 : (t1257 == 0) = false := beq_eq_false_iff_ne.mpr c39
          have c39b1 : (t1257 != 0) = true := bne_iff_ne.mpr c39
          (first | rw [c39b0] | (simp only [i64_w, i32_w]; rw [c39b0]) | skip)
          as_aux_lemma =>
           have H' := Aside0.mk H
           clear H
           go_wp2
           go_meet
           case rel => exact ⟨_, (true), (by first | rfl | (simp; done) | (simp [*]; done)), H', ⟨by have := HJ11.out; have := HK2.out; first | omega | exact Nat.le_refl _⟩, ⟨by (with_reducible repeat (first | apply Kd.R_alloc | apply Kd.R_drewN | apply Kd.R_drew)); exact Kd.R_mono HO_14.out (fun _ hk => ⟨hk.1.2, hk.2⟩)⟩, ⟨by (with_reducible repeat (first | apply Kd.R_alloc | apply Kd.R_drewN | apply Kd.R_drew)); exact Kd.R_mono HO_17.out (fun _ hk => ⟨hk.1.1, hk.2⟩)⟩, ⟨by (with_reducible repeat (first | apply Kd.R_alloc | apply Kd.R_drewN | apply Kd.R_drew)); exact Kd.R_mono HO1259.out (fun _ hk => ⟨hk.1.1.2, hk.2⟩)⟩, ⟨by repeat (first | (with_reducible first | exact HB.out | apply below_alloc | apply pw_below_drewN | apply below_drew1) | exact HB.out)⟩⟩
        case rest =>
         clear HC34
         try clear c1
         try clear p1
         try clear q1
         try clear hx1
         try clear qi1
         try clear c2
         try clear p2
         try clear c3
         try clear c4
         try clear c5
         try clear p6
         try clear c8
         try clear c9
         try clear p12
         try clear q12
         try clear hx12
         try clear qi12
         try clear c17
         try clear c17b0
         try clear c17b1
         try clear c18
         try clear c18b0
         try clear c18b1
         try clear c20
         try clear c20b0
         try clear c21
         try clear c21b0
         try clear c22
         try clear c22b0
         try clear c22b1
         try clear c24
         try clear c24b0
         try clear c25
         try clear c25b0
         try clear c26
         try clear c29
         try clear c29b0
         try clear c29b1
         try clear c39
         try clear c39b0
         try clear c39b1
         try clear hx1246_0
         try clear hx1247_0
         try clear hx1251_0
         try clear p1246
         try clear p1247
         try clear p1251
         try clear p2
         try clear q1246
         try clear q1247
         try clear q1251
         obtain ⟨kq, x96_33, rfl, HA, HJ33, HO_14, HO_17, HO_22, HB⟩ := hcut
         cases kq with
         | zero => exact absurd HA.out (by simp [foghornlaw11_FeedbackReach.j2])
         | succ kj33 =>
          have H := HA.out
          clear HA
          simp only [foghornlaw11_FeedbackReach.j2] at H
          by_cases c41 : x96_33 = true
          ·subst c41
           have H1 : (some false) = some r := by rw [if_pos rfl] at H; exact H
           clear H
           have H := H1
           clear H1
           as_aux_lemma =>
            exact absurd ((Option.some.inj H).trans HQ_.out) (by decide)
          ·replace c41 := Bool.eq_false_iff.mpr c41
           subst c41
           have H1 : (foghornlaw11_FeedbackReach.l1 kj33 x1_11 l5 t1237 t1238 x17_2 t1252 t1253 t1255 t1256 ([] : List (S101)) ([] : List (Nat × Nat)) 0) = some r := by rw [if_neg (show ¬ (false = true) by decide)] at H; exact H
           clear H
           have H := H1
           clear H1
           have H' := Aside0.mk H
           clear H
           go_wp2
           go_loopg [24, 25, 26] kj33 (fun kq v24 v25 v26 w' => ∃ (x24_4 : List (S101)) (x25_4 : List (Nat × Nat)) (x26_4 : Int), v26 = .int .i64 x26_4 ∧ Aside0 (foghornlaw11_FeedbackReach.l1 kq x1_11 l5 t1237 t1238 x17_2 t1252 t1253 t1255 t1256 x24_4 x25_4 x26_4 = some r) ∧ Aside0 (kq ≤ kj33) ∧ Aside0 (Kd.R Kd.cplx 32 w' w.heap.size (fun k_ => some k_ ≠ ((.slice Ao37 x17_2.length co37) : Value).ownBlock ∧ some k_ ≠ (v1258 : Value).ownBlock ∧ some k_ ≠ (v25 : Value).ownBlock) (.slice (some ad1251) t1238.length co35) t1238) ∧ Aside0 (Kd.R Kd.cplx 32 w' w.heap.size (fun k_ => some k_ ≠ ((.slice (some ad1251) t1238.length co35) : Value).ownBlock ∧ some k_ ≠ (v1258 : Value).ownBlock ∧ some k_ ≠ (v25 : Value).ownBlock) (.slice Ao37 x17_2.length co37) x17_2) ∧ Aside0 (Kd.R Kd.cplx 32 w' w.heap.size (fun k_ => some k_ ≠ ((.slice (some ad1251) t1238.length co35) : Value).ownBlock ∧ some k_ ≠ ((.slice Ao37 x17_2.length co37) : Value).ownBlock ∧ some k_ ≠ (v25 : Value).ownBlock) v1258 t1256) ∧ Aside0 (Kd.R k101 101 w' w.heap.size (fun _ => True) v24 x24_4) ∧ Aside0 (Kd.R Kd.cplx 32 w' w.heap.size (fun k_ => some k_ ≠ ((.slice (some ad1251) t1238.length co35) : Value).ownBlock ∧ some k_ ≠ ((.slice Ao37 x17_2.length co37) : Value).ownBlock ∧ some k_ ≠ (v1258 : Value).ownBlock) v25 x25_4) ∧ Aside0 (Below w.heap.size w w'))
           case atStart => exact ⟨(([] : List (S101))), (([] : List (Nat × Nat))), (0), (by first | rfl | (simp; done) | (simp [*]; done)), H', ⟨Nat.le_refl _⟩, ⟨by (with_reducible repeat (first | apply Kd.R_alloc | apply Kd.R_drewN | apply Kd.R_drew)); exact Kd.R_mono HO_14.out (fun _ hk => ⟨hk.1, ⟨hk.2, (by simp [Value.ownBlock])⟩⟩)⟩, ⟨by (with_reducible repeat (first | apply Kd.R_alloc | apply Kd.R_drewN | apply Kd.R_drew)); exact Kd.R_mono HO_17.out (fun _ hk => ⟨hk.1, ⟨hk.2, (by simp [Value.ownBlock])⟩⟩)⟩, ⟨by (with_reducible repeat (first | apply Kd.R_alloc | apply Kd.R_drewN | apply Kd.R_drew)); exact Kd.R_mono HO_22.out (fun _ hk => ⟨hk.1, ⟨hk.2, (by simp [Value.ownBlock])⟩⟩)⟩, ⟨by first | exact Kd.R_nil _ _ _ _ _ | exact Kd.N_nil _ _ _ _ _ | exact Kd.V_nil _ _ _ _ _ | exact Kd.Q_nil _ _ _ _ _ | exact Kd.S_nil _ _ _ _ _⟩, ⟨by first | exact Kd.R_nil _ _ _ _ _ | exact Kd.N_nil _ _ _ _ _ | exact Kd.V_nil _ _ _ _ _ | exact Kd.Q_nil _ _ _ _ _ | exact Kd.S_nil _ _ _ _ _⟩, ⟨by repeat (first | (with_reducible first | exact HB.out | apply below_alloc | apply pw_below_drewN | apply below_drew1) | exact HB.out)⟩⟩
           case round =>
            clear H'
            try clear c1
            try clear p1
            try clear q1
            try clear hx1
            try clear qi1
            try clear c2
            try clear p2
            try clear c3
            try clear c4
            try clear c5
            try clear p6
            try clear c8
            try clear c9
            try clear p12
            try clear q12
            try clear hx12
            try clear qi12
            try clear c17
            try clear c17b0
            try clear c17b1
            try clear c18
            try clear c18b0
            try clear c18b1
            try clear c20
            try clear c20b0
            try clear c21
            try clear c21b0
            try clear c22
            try clear c22b0
            try clear c22b1
            try clear c24
            try clear c24b0
            try clear c25
            try clear c25b0
            try clear c26
            try clear c29
            try clear c29b0
            try clear c29b1
            try clear c39
            try clear c39b0
            try clear c39b1
            try clear c41
            try clear hx1246_0
            try clear hx1247_0
            try clear hx1251_0
            try clear p1
            try clear p12
            try clear p1246
            try clear p1247
            try clear p1251
            try clear p2
            try clear p6
            try clear q1
            try clear q12
            try clear q1246
            try clear q1247
            try clear q1251
            obtain ⟨x24_4, x25_4, x26_4, rfl, HA, HK4, HO_14, HO_17, HO_22, HO_24, HO_25, HB⟩ := hrel
            cases gk with
            | zero => exact absurd HA.out (by simp [foghornlaw11_FeedbackReach.l1])
            | succ k4 =>
             have H := HA.out
             clear HA
             simp only [foghornlaw11_FeedbackReach.l1] at H
             by_cases c42 : x26_4 < (x17_2.length : Int)
             ·rw [if_pos c42] at H
              have c42b0 : decide (x26_4 < (x17_2.length : Int)) = true := decide_eq_true c42
              clear c42
              replace H := Option.bind_eq_some_iff.mp H
              obtain ⟨t1260, A430, H⟩ := H
              replace H : (if 0 ≤ x26_4 then (if x26_4 < (t1256.length : Int) then (if (!((FloatKind.f64.format.order ((rdOf (0, 0) t1256 x26_4).1) t1260.1 == some .eq) && (FloatKind.f64.format.order ((rdOf (0, 0) t1256 x26_4).2) t1260.2 == some .eq))) = true then (some false) else (if (l5.length : Int) > 0 then (if (l5.length : Int) = 0 then (none) else (if 0 ≤ (Int.tmod x26_4 (l5.length : Int)) then (if (Int.tmod x26_4 (l5.length : Int)) < (l5.length : Int) then (if t1255 = 0 then (none) else ((floatBits .quo .f64 (floatOfInt .f64 (Int.tmod ((rd_T171 l5 (Int.tmod x26_4 (l5.length : Int))).f0) t1255)) 4661225614328463360).bind fun t1264 => ((floatBits .quo .f64 (floatOfInt .f64 (Int.tmod ((rd_T171 l5 (Int.tmod x26_4 (l5.length : Int))).f1) t1255)) 4661225614328463360).bind fun t1265 => ((floatBits .add .f64 t1260.1 t1264).bind fun t1266 => ((floatBits .add .f64 t1260.2 t1265).bind fun t1267 => (if x24_4.length < 5864062014805 then ((foghornref11_Turn.f k4 (t1264, t1265) (Int.tmod (wrap64 (4 - t1253)) 4)).bind fun t1271 => ((floatBits .quo .f64 t1271.1 t1252).bind fun t1272 => ((floatBits .quo .f64 t1271.2 t1252).bind fun t1273 => (if x25_4.length < 8796093022208 then (foghornlaw11_FeedbackReach.l1 k4 x1_11 l5 t1237 t1238 x17_2 t1252 t1253 t1255 t1256 (x24_4 ++ [(⟨(t1266, t1267), false⟩ : S101)]) (x25_4 ++ [(t1272, t1273)]) (wrap64 (x26_4 + 1))) else (none))))) else (none))))))) else (none)) else (none))) else ((floatBits .add .f64 t1260.1 0).bind fun t1277 => ((floatBits .add .f64 t1260.2 0).bind fun t1278 => (if x24_4.length < 5864062014805 then ((foghornref11_Turn.f k4 (0, 0) (Int.tmod (wrap64 (4 - t1253)) 4)).bind fun t1282 => ((floatBits .quo .f64 t1282.1 t1252).bind fun t1283 => ((floatBits .quo .f64 t1282.2 t1252).bind fun t1284 => (if x25_4.length < 8796093022208 then (foghornlaw11_FeedbackReach.l1 k4 x1_11 l5 t1237 t1238 x17_2 t1252 t1253 t1255 t1256 (x24_4 ++ [(⟨(t1277, t1278), false⟩ : S101)]) (x25_4 ++ [(t1283, t1284)]) (wrap64 (x26_4 + 1))) else (none))))) else (none)))))) else (none)) else (none)) = some r := H
              have A43 := Aside0.mk A430
              clear A430
              by_cases c44 : 0 ≤ x26_4
              ·rw [if_pos c44] at H
               have c44b0 : decide (0 ≤ x26_4) = true := decide_eq_true c44
               clear c44
               by_cases c45 : x26_4 < (t1256.length : Int)
               ·rw [if_pos c45] at H
                have c45b0 : decide (x26_4 < (t1256.length : Int)) = true := decide_eq_true c45
                clear c45
                by_cases c46 : (!((FloatKind.f64.format.order ((rdOf (0, 0) t1256 x26_4).1) t1260.1 == some .eq) && (FloatKind.f64.format.order ((rdOf (0, 0) t1256 x26_4).2) t1260.2 == some .eq))) = true
                ·rw [if_pos c46] at H
                 have c46b0 : (!((FloatKind.f64.format.order ((rdOf (0, 0) t1256 x26_4).1) t1260.1 == some .eq) && (FloatKind.f64.format.order ((rdOf (0, 0) t1256 x26_4).2) t1260.2 == some .eq))) = true := c46
                 clear c46
                 as_aux_lemma =>
                  exact absurd ((Option.some.inj H).trans HQ_.out) (by decide)
                ·rw [if_neg c46] at H
                 have c46b0 : (!((FloatKind.f64.format.order ((rdOf (0, 0) t1256 x26_4).1) t1260.1 == some .eq) && (FloatKind.f64.format.order ((rdOf (0, 0) t1256 x26_4).2) t1260.2 == some .eq))) = false := by simpa using c46
                 clear c46
                 by_cases c47 : (l5.length : Int) > 0
                 ·rw [if_pos c47] at H
                  have c47b0 : decide (0 < (l5.length : Int)) = true := decide_eq_true c47
                  have c47b1 : decide (0 < l5.length) = true := decide_eq_true (by omega)
                  clear c47
                  by_cases c48 : (l5.length : Int) = 0
                  ·rw [if_pos c48] at H
                   exact absurd H (by simp)
                  ·rw [if_neg c48] at H
                   have c48b0 : ((l5.length : Int) == 0) = false := beq_eq_false_iff_ne.mpr c48
                   have c48b1 : ((l5.length : Int) != 0) = true := bne_iff_ne.mpr c48
                   have c48b2 : ¬ (l5 = []) := fun h_ => c48 (by rw [h_]; rfl)
                   obtain ⟨ji49, hji49⟩ : ∃ j_ : Int, (Int.tmod x26_4 (l5.length : Int)) = j_ := ⟨_, rfl⟩
                   replace H : (if 0 ≤ (ji49) then (if (ji49) < (l5.length : Int) then (if t1255 = 0 then (none) else ((floatBits .quo .f64 (floatOfInt .f64 (Int.tmod ((rd_T171 l5 (ji49)).f0) t1255)) 4661225614328463360).bind fun t1264 => ((floatBits .quo .f64 (floatOfInt .f64 (Int.tmod ((rd_T171 l5 (ji49)).f1) t1255)) 4661225614328463360).bind fun t1265 => ((floatBits .add .f64 t1260.1 t1264).bind fun t1266 => ((floatBits .add .f64 t1260.2 t1265).bind fun t1267 => (if x24_4.length < 5864062014805 then ((foghornref11_Turn.f k4 (t1264, t1265) (Int.tmod (wrap64 (4 - t1253)) 4)).bind fun t1271 => ((floatBits .quo .f64 t1271.1 t1252).bind fun t1272 => ((floatBits .quo .f64 t1271.2 t1252).bind fun t1273 => (if x25_4.length < 8796093022208 then (foghornlaw11_FeedbackReach.l1 k4 x1_11 l5 t1237 t1238 x17_2 t1252 t1253 t1255 t1256 (x24_4 ++ [(⟨(t1266, t1267), false⟩ : S101)]) (x25_4 ++ [(t1272, t1273)]) (wrap64 (x26_4 + 1))) else (none))))) else (none))))))) else (none)) else (none)) = some r := by first | (rw [hji49] at H; exact H) | (simp only [hji49] at H ⊢; exact H)
                   (try rw [hji49] at A43)
                   by_cases c50 : 0 ≤ (ji49)
                   ·rw [if_pos c50] at H
                    have c50b0 : decide (0 ≤ (ji49)) = true := decide_eq_true c50
                    clear c50
                    by_cases c51 : (ji49) < (l5.length : Int)
                    ·rw [if_pos c51] at H
                     have c51b0 : decide ((ji49) < (l5.length : Int)) = true := decide_eq_true c51
                     clear c51
                     by_cases c52 : t1255 = 0
                     ·rw [if_pos c52] at H
                      exact absurd H (by simp)
                     ·rw [if_neg c52] at H
                      have c52b0 : (t1255 == 0) = false := beq_eq_false_iff_ne.mpr c52
                      have c52b1 : (t1255 != 0) = true := bne_iff_ne.mpr c52
                      replace H := Option.bind_eq_some_iff.mp H
                      obtain ⟨t1264, A530, H⟩ := H
                      replace H : ((floatBits .quo .f64 (floatOfInt .f64 (Int.tmod ((rd_T171 l5 (ji49)).f1) t1255)) 4661225614328463360).bind fun t1265 => ((floatBits .add .f64 t1260.1 t1264).bind fun t1266 => ((floatBits .add .f64 t1260.2 t1265).bind fun t1267 => (if x24_4.length < 5864062014805 then ((foghornref11_Turn.f k4 (t1264, t1265) (Int.tmod (wrap64 (4 - t1253)) 4)).bind fun t1271 => ((floatBits .quo .f64 t1271.1 t1252).bind fun t1272 => ((floatBits .quo .f64 t1271.2 t1252).bind fun t1273 => (if x25_4.length < 8796093022208 then (foghornlaw11_FeedbackReach.l1 k4 x1_11 l5 t1237 t1238 x17_2 t1252 t1253 t1255 t1256 (x24_4 ++ [(⟨(t1266, t1267), false⟩ : S101)]) (x25_4 ++ [(t1272, t1273)]) (wrap64 (x26_4 + 1))) else (none))))) else (none))))) = some r := H
                      have A53 := Aside0.mk A530
                      clear A530
                      replace H := Option.bind_eq_some_iff.mp H
                      obtain ⟨t1265, A540, H⟩ := H
                      replace H : ((floatBits .add .f64 t1260.1 t1264).bind fun t1266 => ((floatBits .add .f64 t1260.2 t1265).bind fun t1267 => (if x24_4.length < 5864062014805 then ((foghornref11_Turn.f k4 (t1264, t1265) (Int.tmod (wrap64 (4 - t1253)) 4)).bind fun t1271 => ((floatBits .quo .f64 t1271.1 t1252).bind fun t1272 => ((floatBits .quo .f64 t1271.2 t1252).bind fun t1273 => (if x25_4.length < 8796093022208 then (foghornlaw11_FeedbackReach.l1 k4 x1_11 l5 t1237 t1238 x17_2 t1252 t1253 t1255 t1256 (x24_4 ++ [(⟨(t1266, t1267), false⟩ : S101)]) (x25_4 ++ [(t1272, t1273)]) (wrap64 (x26_4 + 1))) else (none))))) else (none)))) = some r := H
                      have A54 := Aside0.mk A540
                      clear A540
                      replace H := Option.bind_eq_some_iff.mp H
                      obtain ⟨t1266, A550, H⟩ := H
                      replace H : ((floatBits .add .f64 t1260.2 t1265).bind fun t1267 => (if x24_4.length < 5864062014805 then ((foghornref11_Turn.f k4 (t1264, t1265) (Int.tmod (wrap64 (4 - t1253)) 4)).bind fun t1271 => ((floatBits .quo .f64 t1271.1 t1252).bind fun t1272 => ((floatBits .quo .f64 t1271.2 t1252).bind fun t1273 => (if x25_4.length < 8796093022208 then (foghornlaw11_FeedbackReach.l1 k4 x1_11 l5 t1237 t1238 x17_2 t1252 t1253 t1255 t1256 (x24_4 ++ [(⟨(t1266, t1267), false⟩ : S101)]) (x25_4 ++ [(t1272, t1273)]) (wrap64 (x26_4 + 1))) else (none))))) else (none))) = some r := H
                      have A55 := Aside0.mk A550
                      clear A550
                      replace H := Option.bind_eq_some_iff.mp H
                      obtain ⟨t1267, A560, H⟩ := H
                      replace H : (if x24_4.length < 5864062014805 then ((foghornref11_Turn.f k4 (t1264, t1265) (Int.tmod (wrap64 (4 - t1253)) 4)).bind fun t1271 => ((floatBits .quo .f64 t1271.1 t1252).bind fun t1272 => ((floatBits .quo .f64 t1271.2 t1252).bind fun t1273 => (if x25_4.length < 8796093022208 then (foghornlaw11_FeedbackReach.l1 k4 x1_11 l5 t1237 t1238 x17_2 t1252 t1253 t1255 t1256 (x24_4 ++ [(⟨(t1266, t1267), false⟩ : S101)]) (x25_4 ++ [(t1272, t1273)]) (wrap64 (x26_4 + 1))) else (none))))) else (none)) = some r := H
                      have A56 := Aside0.mk A560
                      clear A560
                      by_cases c57 : x24_4.length < 5864062014805
                      ·rw [if_pos c57] at H
                       have LMc57 := Aside0.mk c57
                       clear c57
                       obtain ⟨y1268, hy1268⟩ : ∃ y_ : List (S101), y_ = (x24_4 ++ [(⟨(t1266, t1267), false⟩ : S101)]) := ⟨_, rfl⟩
                       replace H : ((foghornref11_Turn.f k4 (t1264, t1265) (Int.tmod (wrap64 (4 - t1253)) 4)).bind fun t1271 => ((floatBits .quo .f64 t1271.1 t1252).bind fun t1272 => ((floatBits .quo .f64 t1271.2 t1252).bind fun t1273 => (if x25_4.length < 8796093022208 then (foghornlaw11_FeedbackReach.l1 k4 x1_11 l5 t1237 t1238 x17_2 t1252 t1253 t1255 t1256 y1268 (x25_4 ++ [(t1272, t1273)]) (wrap64 (x26_4 + 1))) else (none))))) = some r := by first | (rw [hy1268]; with_reducible exact H) | (have H2_ := (Option.bind_some _ _).symm.trans H; rw [hy1268]; with_reducible exact H2_) | (have H2_ := (Option.bind_some _ _).symm.trans H; with_reducible exact H2_) | with_reducible exact H | (rw [hy1268]; exact H) | exact H
                       have Ny1268 := Aside0.mk hy1268
                       clear hy1268
                       replace H := Option.bind_eq_some_iff.mp H
                       obtain ⟨t1271, A580, H⟩ := H
                       replace H : ((floatBits .quo .f64 t1271.1 t1252).bind fun t1272 => ((floatBits .quo .f64 t1271.2 t1252).bind fun t1273 => (if x25_4.length < 8796093022208 then (foghornlaw11_FeedbackReach.l1 k4 x1_11 l5 t1237 t1238 x17_2 t1252 t1253 t1255 t1256 y1268 (x25_4 ++ [(t1272, t1273)]) (wrap64 (x26_4 + 1))) else (none)))) = some r := H
                       have A58 := Aside0.mk A580
                       clear A580
                       replace H := Option.bind_eq_some_iff.mp H
                       obtain ⟨t1272, A590, H⟩ := H
                       replace H : ((floatBits .quo .f64 t1271.2 t1252).bind fun t1273 => (if x25_4.length < 8796093022208 then (foghornlaw11_FeedbackReach.l1 k4 x1_11 l5 t1237 t1238 x17_2 t1252 t1253 t1255 t1256 y1268 (x25_4 ++ [(t1272, t1273)]) (wrap64 (x26_4 + 1))) else (none))) = some r := H
                       have A59 := Aside0.mk A590
                       clear A590
                       replace H := Option.bind_eq_some_iff.mp H
                       obtain ⟨t1273, A600, H⟩ := H
                       replace H : (if x25_4.length < 8796093022208 then (foghornlaw11_FeedbackReach.l1 k4 x1_11 l5 t1237 t1238 x17_2 t1252 t1253 t1255 t1256 y1268 (x25_4 ++ [(t1272, t1273)]) (wrap64 (x26_4 + 1))) else (none)) = some r := H
                       have A60 := Aside0.mk A600
                       clear A600
                       by_cases c61 : x25_4.length < 8796093022208
                       ·rw [if_pos c61] at H
                        have LMc61 := Aside0.mk c61
                        clear c61
                        obtain ⟨y1274, hy1274⟩ : ∃ y_ : List (Nat × Nat), y_ = (x25_4 ++ [(t1272, t1273)]) := ⟨_, rfl⟩
                        replace H : (foghornlaw11_FeedbackReach.l1 k4 x1_11 l5 t1237 t1238 x17_2 t1252 t1253 t1255 t1256 y1268 y1274 (wrap64 (x26_4 + 1))) = some r := by first | (rw [hy1274]; with_reducible exact H) | (have H2_ := (Option.bind_some _ _).symm.trans H; rw [hy1274]; with_reducible exact H2_) | (have H2_ := (Option.bind_some _ _).symm.trans H; with_reducible exact H2_) | with_reducible exact H | (rw [hy1274]; exact H) | exact H
                        have Ny1274 := Aside0.mk hy1274
                        clear hy1274
                        as_aux_lemma =>
                         have H' := Aside0.mk H
                         clear H
                         go_wp2_with (first | (go_at_call 100; (with_reducible refine (foghornlaw11_answer.calls k4 _ _ t1238 _ _ x17_2 x26_4 t1260 _ ?side1 ?side2 ?side3 ?side4 A43.out).mono ?_); (case side1 => repeat (first | exact (Kd.R_reads' HO_14.out).2.2 | (with_reducible refine Kd.C_alloc ?_ _) | (with_reducible refine Kd.C_drewN ?_ _) | (with_reducible refine Kd.C_drew ?_))); (case side2 => exact (Kd.R_reads' HO_14.out).2.1); (case side3 => repeat (first | exact (Kd.R_reads' HO_17.out).2.2 | (with_reducible refine Kd.C_alloc ?_ _) | (with_reducible refine Kd.C_drewN ?_ _) | (with_reducible refine Kd.C_drew ?_))); (case side4 => exact (Kd.R_reads' HO_17.out).2.1); rintro e w62 ⟨rfl, hb⟩; have n0_ := Aside0.mk (Kd.R_below (by (with_reducible repeat (first | apply Kd.R_alloc | apply Kd.R_drewN | apply Kd.R_drew)); exact HO_14.out) hb); have n1_ := Aside0.mk (Kd.R_below (by (with_reducible repeat (first | apply Kd.R_alloc | apply Kd.R_drewN | apply Kd.R_drew)); exact HO_17.out) hb); have n2_ := Aside0.mk (Kd.R_below (by (with_reducible repeat (first | apply Kd.R_alloc | apply Kd.R_drewN | apply Kd.R_drew)); exact HO_22.out) hb); have n3_ := Aside0.mk (Kd.R_below (by (with_reducible repeat (first | apply Kd.R_alloc | apply Kd.R_drewN | apply Kd.R_drew)); exact HO_24.out) hb); have n4_ := Aside0.mk (Kd.R_below (by (with_reducible repeat (first | apply Kd.R_alloc | apply Kd.R_drewN | apply Kd.R_drew)); exact HO_25.out) hb); have n5_ := Aside0.mk (below_step (by repeat (first | (with_reducible first | exact HB.out | apply below_alloc | apply pw_below_drewN | apply below_drew1) | exact HB.out)) hb); clear HO_14; clear HO_17; clear HO_22; clear HO_24; clear HO_25; clear HB; have HO_14 := n0_; have HO_17 := n1_; have HO_22 := n2_; have HO_24 := n3_; have HO_25 := n4_; have HB := n5_; clear n0_ n1_ n2_ n3_ n4_ n5_; (try clear hb); (try clear hb2); (try clear hk); (try clear hi); obtain ⟨Ao63, co63, eo63⟩ := Kd.R_slice HO_22.out; subst eo63; have p1261 : 0 ≤ (x26_4 : Int) := of_decide_eq_true (by first | (with_reducible assumption) | assumption); have q1261 : x26_4 < (t1256.length : Int) := of_decide_eq_true (by first | (with_reducible assumption) | assumption); obtain ⟨ad1261, e1261, hx1261_0⟩ := Kd.at_cplx (Kd.R_reads' HO_22.out).2.2 x26_4 p1261 q1261; cases e1261; replace p1261 := eq_true p1261; replace q1261 := eq_true q1261; have p1262 : 0 ≤ ((ji49) : Int) := of_decide_eq_true (by first | (with_reducible assumption) | assumption); have q1262 : (ji49) < (l5.length : Int) := of_decide_eq_true (by first | (with_reducible assumption) | assumption); obtain ⟨ad1262, e1262, hx1262_0, hx1262_1⟩ := at_T171 HR5.out (ji49) p1262 q1262; cases e1262; replace hx1262_0 := (HB.out.cell (World.block_lt_of_cell? w _ hx1262_0)).trans hx1262_0; replace hx1262_1 := (HB.out.cell (World.block_lt_of_cell? w _ hx1262_1)).trans hx1262_1; replace p1262 := eq_true p1262; replace q1262 := eq_true q1262) | ((with_reducible refine gate_dst (N := 29) rfl ?_); (try (refine gate_guard (by rfl) ?_; dsimp only)); refine box_event ?hg (N := 29) ?hd (cs := #[.int .i32 0, .int .i32 0]) (t := 171) ?hr ?_; (case hd => rfl); (case hg => rfl); (case hr => first | (go_simp; done) | (go_simp; rfl)); intro gb1263 hg w64 hbox hb; have n0_ := Aside0.mk (Kd.R_below (by (with_reducible repeat (first | apply Kd.R_alloc | apply Kd.R_drewN | apply Kd.R_drew)); exact HO_14.out) hb); have n1_ := Aside0.mk (Kd.R_below (by (with_reducible repeat (first | apply Kd.R_alloc | apply Kd.R_drewN | apply Kd.R_drew)); exact HO_17.out) hb); have n2_ := Aside0.mk (Kd.R_below (by (with_reducible repeat (first | apply Kd.R_alloc | apply Kd.R_drewN | apply Kd.R_drew)); exact HO_22.out) hb); have n3_ := Aside0.mk (Kd.R_below (by (with_reducible repeat (first | apply Kd.R_alloc | apply Kd.R_drewN | apply Kd.R_drew)); exact HO_24.out) hb); have n4_ := Aside0.mk (Kd.R_below (by (with_reducible repeat (first | apply Kd.R_alloc | apply Kd.R_drewN | apply Kd.R_drew)); exact HO_25.out) hb); have n5_ := Aside0.mk (below_step (by repeat (first | (with_reducible first | exact HB.out | apply below_alloc | apply pw_below_drewN | apply below_drew1) | exact HB.out)) hb); have n6_ := Aside0.mk (hbox); have n7_ := Aside0.mk ((by rw [hg]; exact (below_size (by repeat (first | (with_reducible first | exact HB.out | apply below_alloc | apply pw_below_drewN | apply below_drew1) | exact HB.out))) : w.heap.size ≤ gb1263)); have n8_ := Aside0.mk ((by rw [hg]; exact (below_size (by repeat (first | (with_reducible first | exact HB.out | apply below_alloc | apply pw_below_drewN | apply below_drew1) | exact HB.out))) : w.heap.size ≤ gb1263)); clear HO_14; clear HO_17; clear HO_22; clear HO_24; clear HO_25; clear HB; have HO_14 := n0_; have HO_17 := n1_; have HO_22 := n2_; have HO_24 := n3_; have HO_25 := n4_; have HB := n5_; have BK1263 := n6_; have GW1263 := n7_; have GE1263 := n8_; clear n0_ n1_ n2_ n3_ n4_ n5_ n6_ n7_ n8_; clear hb hbox hg; have hcz65_0 : w64.cell? ⟨gb1263, 0, none⟩ = some (.int .i32 0) := (blk_cell BK1263.out 0).trans rfl; have hcz65_1 : w64.cell? ⟨gb1263, 1, none⟩ = some (.int .i32 0) := (blk_cell BK1263.out 1).trans rfl; have hfz65_0 := blk_frozen BK1263.out 0; have hfz65_1 := blk_frozen BK1263.out 1; have hfoA53_ := fun (t_ : TypeId) (w_ : World) => run_float_arith (P := Try.prog) w_ .quo t_ .f64 (floatOfInt .f64 (Int.tmod ((rd_T171 l5 (ji49)).f0) t1255)) 4661225614328463360 t1264 A53.out; have hfoA54_ := fun (t_ : TypeId) (w_ : World) => run_float_arith (P := Try.prog) w_ .quo t_ .f64 (floatOfInt .f64 (Int.tmod ((rd_T171 l5 (ji49)).f1) t1255)) 4661225614328463360 t1265 A54.out; have hfoA55_ := fun (t_ : TypeId) (w_ : World) => run_float_arith (P := Try.prog) w_ .add t_ .f64 t1260.1 t1264 t1266 A55.out; have hfoA56_ := fun (t_ : TypeId) (w_ : World) => run_float_arith (P := Try.prog) w_ .add t_ .f64 t1260.2 t1265 t1267 A56.out))
                         repeat (go_quiet (fail); try go_wp2_with (first | ((with_reducible refine gate_builtin (b := .append) (xs := #[.tmp 136, .tmp 149]) rfl ?_); (try (refine gate_guard (by rfl) ?_; dsimp only)); at_builtin; refine Kd.R_append k101 (w0 := w) w.heap.size rfl (.tmp 136) (.tmp 149) 95 101 (.agg #[(.complex .f64 0 0), (.bool false)]) 24 rfl Try.underlying95 info101 rfl (by decide) (by omega) u24 x24_4 (⟨(t1266, t1267), false⟩ : S101) [.complex .f64 t1266 t1267, .bool false] (fun _ => True) (fun _ => False) rfl (by first | (go_simp; done) | (go_simp; rfl)) ?aP (fun _ hk => hk.elim) ?aF ?aO ?aB ?aS ?aL ?_; (case aP => exact k101_mkM _ _ _ (⟨(t1266, t1267), false⟩ : S101)); (case aB => exact (by repeat (first | (with_reducible first | exact HB.out | apply below_alloc | apply pw_below_drewN | apply below_drew1 | refine below_set ?_ GE1263.out) | exact HB.out))); (case aF => exact (fun _ _ => trivial)); (case aO => exact (by (with_reducible repeat (first | apply Kd.R_alloc | apply Kd.R_drewN | apply Kd.R_drew)); exact Kd.R_mono (Kd.R_far (p := ⟨gb1263, 1, none⟩) (Kd.R_far (p := ⟨gb1263, 0, none⟩) (Kd.R_types HO_24.out BK1263.out (by decide)) (fun _ hk => hk.2) (.int .i32 ((rd_T171 l5 (ji49)).f0))) (fun _ hk => hk.2) (.int .i32 ((rd_T171 l5 (ji49)).f1))) (fun _ hk => trivial))); (case aS => exact (below_size (by repeat (first | (with_reducible first | exact HB.out | apply below_alloc | apply pw_below_drewN | apply below_drew1 | refine below_set ?_ GE1263.out) | exact HB.out)))); (case aL => have := LMc57.out; omega); intro v1269 w66 ho hb hg hat; rw [← Ny1268.out] at ho; have n0_ := Aside0.mk (Kd.R_over' (by (with_reducible repeat (first | apply Kd.R_alloc | apply Kd.R_drewN | apply Kd.R_drew)); exact (Kd.R_mono (Kd.R_far (p := ⟨gb1263, 1, none⟩) (Kd.R_far (p := ⟨gb1263, 0, none⟩) (Kd.R_types HO_14.out BK1263.out (by decide)) (fun _ hk => hk.2) (.int .i32 ((rd_T171 l5 (ji49)).f0))) (fun _ hk => hk.2) (.int .i32 ((rd_T171 l5 (ji49)).f1))) (fun _ h_ => h_.1))) (Kd.R_typed (by (with_reducible repeat (first | apply Kd.R_alloc | apply Kd.R_drewN | apply Kd.R_drew)); exact (Kd.R_mono (Kd.R_far (p := ⟨gb1263, 1, none⟩) (Kd.R_far (p := ⟨gb1263, 0, none⟩) (Kd.R_types HO_24.out BK1263.out (by decide)) (fun _ hk => hk.2) (.int .i32 ((rd_T171 l5 (ji49)).f0))) (fun _ hk => hk.2) (.int .i32 ((rd_T171 l5 (ji49)).f1))) (fun _ h_ => h_.1)))) (by decide) hg); have n1_ := Aside0.mk (Kd.R_over' (by (with_reducible repeat (first | apply Kd.R_alloc | apply Kd.R_drewN | apply Kd.R_drew)); exact (Kd.R_mono (Kd.R_far (p := ⟨gb1263, 1, none⟩) (Kd.R_far (p := ⟨gb1263, 0, none⟩) (Kd.R_types HO_17.out BK1263.out (by decide)) (fun _ hk => hk.2) (.int .i32 ((rd_T171 l5 (ji49)).f0))) (fun _ hk => hk.2) (.int .i32 ((rd_T171 l5 (ji49)).f1))) (fun _ h_ => h_.1))) (Kd.R_typed (by (with_reducible repeat (first | apply Kd.R_alloc | apply Kd.R_drewN | apply Kd.R_drew)); exact (Kd.R_mono (Kd.R_far (p := ⟨gb1263, 1, none⟩) (Kd.R_far (p := ⟨gb1263, 0, none⟩) (Kd.R_types HO_24.out BK1263.out (by decide)) (fun _ hk => hk.2) (.int .i32 ((rd_T171 l5 (ji49)).f0))) (fun _ hk => hk.2) (.int .i32 ((rd_T171 l5 (ji49)).f1))) (fun _ h_ => h_.1)))) (by decide) hg); have n2_ := Aside0.mk (Kd.R_over' (by (with_reducible repeat (first | apply Kd.R_alloc | apply Kd.R_drewN | apply Kd.R_drew)); exact (Kd.R_mono (Kd.R_far (p := ⟨gb1263, 1, none⟩) (Kd.R_far (p := ⟨gb1263, 0, none⟩) (Kd.R_types HO_22.out BK1263.out (by decide)) (fun _ hk => hk.2) (.int .i32 ((rd_T171 l5 (ji49)).f0))) (fun _ hk => hk.2) (.int .i32 ((rd_T171 l5 (ji49)).f1))) (fun _ h_ => h_.1))) (Kd.R_typed (by (with_reducible repeat (first | apply Kd.R_alloc | apply Kd.R_drewN | apply Kd.R_drew)); exact (Kd.R_mono (Kd.R_far (p := ⟨gb1263, 1, none⟩) (Kd.R_far (p := ⟨gb1263, 0, none⟩) (Kd.R_types HO_24.out BK1263.out (by decide)) (fun _ hk => hk.2) (.int .i32 ((rd_T171 l5 (ji49)).f0))) (fun _ hk => hk.2) (.int .i32 ((rd_T171 l5 (ji49)).f1))) (fun _ h_ => h_.1)))) (by decide) hg); have n3_ := Aside0.mk (Kd.R_over' (by (with_reducible repeat (first | apply Kd.R_alloc | apply Kd.R_drewN | apply Kd.R_drew)); exact (Kd.R_mono (Kd.R_far (p := ⟨gb1263, 1, none⟩) (Kd.R_far (p := ⟨gb1263, 0, none⟩) (Kd.R_types HO_25.out BK1263.out (by decide)) (fun _ hk => hk.2) (.int .i32 ((rd_T171 l5 (ji49)).f0))) (fun _ hk => hk.2) (.int .i32 ((rd_T171 l5 (ji49)).f1))) (fun _ h_ => h_.1))) (Kd.R_typed (by (with_reducible repeat (first | apply Kd.R_alloc | apply Kd.R_drewN | apply Kd.R_drew)); exact (Kd.R_mono (Kd.R_far (p := ⟨gb1263, 1, none⟩) (Kd.R_far (p := ⟨gb1263, 0, none⟩) (Kd.R_types HO_24.out BK1263.out (by decide)) (fun _ hk => hk.2) (.int .i32 ((rd_T171 l5 (ji49)).f0))) (fun _ hk => hk.2) (.int .i32 ((rd_T171 l5 (ji49)).f1))) (fun _ h_ => h_.1)))) (by decide) hg); have n4_ := Aside0.mk (blk_grown (g := gb1263) (o := .cells #[.int .i32 ((rd_T171 l5 (ji49)).f0), .int .i32 ((rd_T171 l5 (ji49)).f1)] 171 (0, 0)) (by (with_reducible repeat (first | refine blk_drewN ?_ _ | refine blk_drew ?_ | refine blk_alloc ?_ _)); refine blk_put (cs := #[.int .i32 ((rd_T171 l5 (ji49)).f0), .int .i32 0]) ?_ 1 _ rfl; (with_reducible repeat (first | refine blk_drewN ?_ _ | refine blk_drew ?_ | refine blk_alloc ?_ _)); refine blk_put (cs := #[.int .i32 0, .int .i32 0]) ?_ 0 _ rfl; (with_reducible repeat (first | refine blk_drewN ?_ _ | refine blk_drew ?_ | refine blk_alloc ?_ _)); exact BK1263.out) hg (Kd.R_ne HO_24.out BK1263.out (by decide))); have n5_ := Aside0.mk (hb); have n6_ := Aside0.mk (ho); clear HO_14; clear HO_17; clear HO_22; clear HO_25; clear BK1263; clear HB; clear HO_24; have HO_14 := n0_; have HO_17 := n1_; have HO_22 := n2_; have HO_25 := n3_; have BK1263 := n4_; have HB := n5_; have HO1270 := n6_; clear n0_ n1_ n2_ n3_ n4_ n5_ n6_; clear ho hb hg hat) | (go_at_call 94; (with_reducible refine (foghornref11_Turn.calls k4 (t1264, t1265) (Int.tmod (wrap64 (4 - t1253)) 4) t1271 _ A58.out).mono ?_); rintro e w67 ⟨rfl, hb⟩; have n0_ := Aside0.mk (Kd.R_below (by (with_reducible repeat (first | apply Kd.R_alloc | apply Kd.R_drewN | apply Kd.R_drew)); exact HO_14.out) hb); have n1_ := Aside0.mk (Kd.R_below (by (with_reducible repeat (first | apply Kd.R_alloc | apply Kd.R_drewN | apply Kd.R_drew)); exact HO_17.out) hb); have n2_ := Aside0.mk (Kd.R_below (by (with_reducible repeat (first | apply Kd.R_alloc | apply Kd.R_drewN | apply Kd.R_drew)); exact HO_22.out) hb); have n3_ := Aside0.mk (Kd.R_below (by (with_reducible repeat (first | apply Kd.R_alloc | apply Kd.R_drewN | apply Kd.R_drew)); exact HO_25.out) hb); have n4_ := Aside0.mk (Kd.R_below (by (with_reducible repeat (first | apply Kd.R_alloc | apply Kd.R_drewN | apply Kd.R_drew)); exact HO1270.out) hb); have n5_ := Aside0.mk (blk_below (g := gb1263) (o := .cells #[.int .i32 ((rd_T171 l5 (ji49)).f0), .int .i32 ((rd_T171 l5 (ji49)).f1)] 171 (0, 0)) (by (with_reducible repeat (first | refine blk_drewN ?_ _ | refine blk_drew ?_ | refine blk_alloc ?_ _)); exact BK1263.out) hb); have n6_ := Aside0.mk (below_step (by repeat (first | (with_reducible first | exact HB.out | apply below_alloc | apply pw_below_drewN | apply below_drew1 | refine below_set ?_ GE1263.out) | exact HB.out)) hb); clear HO_14; clear HO_17; clear HO_22; clear HO_25; clear HO1270; clear BK1263; clear HB; have HO_14 := n0_; have HO_17 := n1_; have HO_22 := n2_; have HO_25 := n3_; have HO1270 := n4_; have BK1263 := n5_; have HB := n6_; clear n0_ n1_ n2_ n3_ n4_ n5_ n6_; (try clear hb); (try clear hb2); (try clear hk); (try clear hi); have hfoA59_ := fun (t_ : TypeId) (w_ : World) => run_float_arith (P := Try.prog) w_ .quo t_ .f64 t1271.1 t1252 t1272 A59.out; have hfoA60_ := fun (t_ : TypeId) (w_ : World) => run_float_arith (P := Try.prog) w_ .quo t_ .f64 t1271.2 t1252 t1273 A60.out) | ((with_reducible refine gate_builtin (b := .append) (xs := #[.tmp 156, .tmp 166]) rfl ?_); (try (refine gate_guard (by rfl) ?_; dsimp only)); at_builtin; refine Kd.R_append Kd.cplx (w0 := w) w.heap.size rfl (.tmp 156) (.tmp 166) 24 32 (.complex .f64 0 0) 16 rfl Try.underlying24 info32 rfl (by decide) (by omega) u25 x25_4 (t1272, t1273) [.complex .f64 t1272 t1273] (fun k_ => some k_ ≠ (.slice (some ad1251) t1238.length co35 : Value).ownBlock ∧ some k_ ≠ (.slice Ao37 x17_2.length co37 : Value).ownBlock ∧ some k_ ≠ (.slice (some ad1261) t1256.length co63 : Value).ownBlock) (fun _ => False) rfl rfl ?aP (fun _ hk => hk.elim) ?aF ?aO ?aB ?aS ?aL ?_; (case aP => exact rfl); (case aB => exact (by repeat (first | (with_reducible first | exact HB.out | apply below_alloc | apply pw_below_drewN | apply below_drew1 | refine below_set ?_ GE1263.out) | exact HB.out))); (case aF => exact (fun k_ hk => ⟨Kd.fresh' (Kd.R_lt (by (with_reducible repeat (first | apply Kd.R_alloc | apply Kd.R_drewN | apply Kd.R_drew)); exact HO_14.out)) k_ hk, Kd.fresh' (Kd.R_lt (by (with_reducible repeat (first | apply Kd.R_alloc | apply Kd.R_drewN | apply Kd.R_drew)); exact HO_17.out)) k_ hk, Kd.fresh' (Kd.R_lt (by (with_reducible repeat (first | apply Kd.R_alloc | apply Kd.R_drewN | apply Kd.R_drew)); exact HO_22.out)) k_ hk⟩)); (case aO => exact (by (with_reducible repeat (first | apply Kd.R_alloc | apply Kd.R_drewN | apply Kd.R_drew)); exact HO_25.out)); (case aS => exact (below_size (by repeat (first | (with_reducible first | exact HB.out | apply below_alloc | apply pw_below_drewN | apply below_drew1 | refine below_set ?_ GE1263.out) | exact HB.out)))); (case aL => have := LMc61.out; omega); intro v1275 w68 ho hb hg hat; rw [← Ny1274.out] at ho; have n0_ := Aside0.mk (Kd.R_after (ok := (fun k_ => some k_ ≠ (.slice Ao37 x17_2.length co37 : Value).ownBlock ∧ some k_ ≠ (.slice (some ad1261) t1256.length co63 : Value).ownBlock)) (by (with_reducible repeat (first | apply Kd.R_alloc | apply Kd.R_drewN | apply Kd.R_drew)); exact Kd.R_mono HO_14.out (fun _ hk => ⟨⟨hk.1, hk.2.1⟩, hk.2.2⟩)) hg hat); have n1_ := Aside0.mk (Kd.R_after (ok := (fun k_ => some k_ ≠ (.slice (some ad1251) t1238.length co35 : Value).ownBlock ∧ some k_ ≠ (.slice (some ad1261) t1256.length co63 : Value).ownBlock)) (by (with_reducible repeat (first | apply Kd.R_alloc | apply Kd.R_drewN | apply Kd.R_drew)); exact Kd.R_mono HO_17.out (fun _ hk => ⟨⟨hk.1, hk.2.1⟩, hk.2.2⟩)) hg hat); have n2_ := Aside0.mk (Kd.R_after (ok := (fun k_ => some k_ ≠ (.slice (some ad1251) t1238.length co35 : Value).ownBlock ∧ some k_ ≠ (.slice Ao37 x17_2.length co37 : Value).ownBlock)) (by (with_reducible repeat (first | apply Kd.R_alloc | apply Kd.R_drewN | apply Kd.R_drew)); exact Kd.R_mono HO_22.out (fun _ hk => ⟨⟨hk.1, hk.2.1⟩, hk.2.2⟩)) hg hat); have n3_ := Aside0.mk (blk_grown (g := gb1263) (o := .cells #[.int .i32 ((rd_T171 l5 (ji49)).f0), .int .i32 ((rd_T171 l5 (ji49)).f1)] 171 (0, 0)) (by (with_reducible repeat (first | refine blk_drewN ?_ _ | refine blk_drew ?_ | refine blk_alloc ?_ _)); exact BK1263.out) hg (Kd.R_ne HO_25.out BK1263.out (by decide))); have n4_ := Aside0.mk (Kd.R_over' (by (with_reducible repeat (first | apply Kd.R_alloc | apply Kd.R_drewN | apply Kd.R_drew)); exact HO1270.out) (Kd.R_typed (by (with_reducible repeat (first | apply Kd.R_alloc | apply Kd.R_drewN | apply Kd.R_drew)); exact HO_25.out)) (by decide) hg); have n5_ := Aside0.mk (hb); have n6_ := Aside0.mk (ho); clear HO_14; clear HO_17; clear HO_22; clear BK1263; clear HO1270; clear HB; clear HO_25; have HO_14 := n0_; have HO_17 := n1_; have HO_22 := n2_; have BK1263 := n3_; have HO1270 := n4_; have HB := n5_; have HO1276 := n6_; clear n0_ n1_ n2_ n3_ n4_ n5_ n6_; clear ho hb hg hat)))
                         first | go_roundg k4 | (simp only [add_plain] at *; go_roundg k4)
                         case measure => have := HJ11.out; have := HK2.out; have := HJ33.out; have := HK4.out; omega
                         case rel => exact ⟨(y1268), (y1274), (wrap64 (x26_4 + 1)), (by first | rfl | (simp; done) | (simp [*]; done)), H', ⟨by have := HJ11.out; have := HK2.out; have := HJ33.out; have := HK4.out; omega⟩, ⟨by (with_reducible repeat (first | apply Kd.R_alloc | apply Kd.R_drewN | apply Kd.R_drew)); exact Kd.R_mono HO_14.out (fun _ hk => ⟨hk.1.1, ⟨hk.1.2, hk.2⟩⟩)⟩, ⟨by (with_reducible repeat (first | apply Kd.R_alloc | apply Kd.R_drewN | apply Kd.R_drew)); exact Kd.R_mono HO_17.out (fun _ hk => ⟨hk.1.1, ⟨hk.1.2, hk.2⟩⟩)⟩, ⟨by (with_reducible repeat (first | apply Kd.R_alloc | apply Kd.R_drewN | apply Kd.R_drew)); exact Kd.R_mono HO_22.out (fun _ hk => ⟨hk.1.1, ⟨hk.1.2, hk.2⟩⟩)⟩, ⟨by (with_reducible repeat (first | apply Kd.R_alloc | apply Kd.R_drewN | apply Kd.R_drew)); exact HO1270.out⟩, ⟨by (with_reducible repeat (first | apply Kd.R_alloc | apply Kd.R_drewN | apply Kd.R_drew)); exact HO1276.out⟩, ⟨by repeat (first | (with_reducible first | exact HB.out | apply below_alloc | apply pw_below_drewN | apply below_drew1 | refine below_set ?_ GE1263.out) | exact HB.out)⟩⟩
                       ·rw [if_neg c61] at H
                        exact absurd H (by simp)
                      ·rw [if_neg c57] at H
                       exact absurd H (by simp)
                    ·rw [if_neg c51] at H
                     exact absurd H (by simp)
                   ·rw [if_neg c50] at H
                    exact absurd H (by simp)
                 ·rw [if_neg c47] at H
                  have c47b0 : decide (0 < (l5.length : Int)) = false := decide_eq_false c47
                  have c47b1 : decide (0 < l5.length) = false := decide_eq_false (by omega)
                  clear c47
                  replace H := Option.bind_eq_some_iff.mp H
                  obtain ⟨t1277, A690, H⟩ := H
                  replace H : ((floatBits .add .f64 t1260.2 0).bind fun t1278 => (if x24_4.length < 5864062014805 then ((foghornref11_Turn.f k4 (0, 0) (Int.tmod (wrap64 (4 - t1253)) 4)).bind fun t1282 => ((floatBits .quo .f64 t1282.1 t1252).bind fun t1283 => ((floatBits .quo .f64 t1282.2 t1252).bind fun t1284 => (if x25_4.length < 8796093022208 then (foghornlaw11_FeedbackReach.l1 k4 x1_11 l5 t1237 t1238 x17_2 t1252 t1253 t1255 t1256 (x24_4 ++ [(⟨(t1277, t1278), false⟩ : S101)]) (x25_4 ++ [(t1283, t1284)]) (wrap64 (x26_4 + 1))) else (none))))) else (none))) = some r := H
                  have A69 := Aside0.mk A690
                  clear A690
                  replace H := Option.bind_eq_some_iff.mp H
                  obtain ⟨t1278, A700, H⟩ := H
                  replace H : (if x24_4.length < 5864062014805 then ((foghornref11_Turn.f k4 (0, 0) (Int.tmod (wrap64 (4 - t1253)) 4)).bind fun t1282 => ((floatBits .quo .f64 t1282.1 t1252).bind fun t1283 => ((floatBits .quo .f64 t1282.2 t1252).bind fun t1284 => (if x25_4.length < 8796093022208 then (foghornlaw11_FeedbackReach.l1 k4 x1_11 l5 t1237 t1238 x17_2 t1252 t1253 t1255 t1256 (x24_4 ++ [(⟨(t1277, t1278), false⟩ : S101)]) (x25_4 ++ [(t1283, t1284)]) (wrap64 (x26_4 + 1))) else (none))))) else (none)) = some r := H
                  have A70 := Aside0.mk A700
                  clear A700
                  by_cases c71 : x24_4.length < 5864062014805
                  ·rw [if_pos c71] at H
                   have LMc71 := Aside0.mk c71
                   clear c71
                   obtain ⟨y1279, hy1279⟩ : ∃ y_ : List (S101), y_ = (x24_4 ++ [(⟨(t1277, t1278), false⟩ : S101)]) := ⟨_, rfl⟩
                   replace H : ((foghornref11_Turn.f k4 (0, 0) (Int.tmod (wrap64 (4 - t1253)) 4)).bind fun t1282 => ((floatBits .quo .f64 t1282.1 t1252).bind fun t1283 => ((floatBits .quo .f64 t1282.2 t1252).bind fun t1284 => (if x25_4.length < 8796093022208 then (foghornlaw11_FeedbackReach.l1 k4 x1_11 l5 t1237 t1238 x17_2 t1252 t1253 t1255 t1256 y1279 (x25_4 ++ [(t1283, t1284)]) (wrap64 (x26_4 + 1))) else (none))))) = some r := by first | (rw [hy1279]; with_reducible exact H) | (have H2_ := (Option.bind_some _ _).symm.trans H; rw [hy1279]; with_reducible exact H2_) | (have H2_ := (Option.bind_some _ _).symm.trans H; with_reducible exact H2_) | with_reducible exact H | (rw [hy1279]; exact H) | exact H
                   have Ny1279 := Aside0.mk hy1279
                   clear hy1279
                   replace H := Option.bind_eq_some_iff.mp H
                   obtain ⟨t1282, A720, H⟩ := H
                   replace H : ((floatBits .quo .f64 t1282.1 t1252).bind fun t1283 => ((floatBits .quo .f64 t1282.2 t1252).bind fun t1284 => (if x25_4.length < 8796093022208 then (foghornlaw11_FeedbackReach.l1 k4 x1_11 l5 t1237 t1238 x17_2 t1252 t1253 t1255 t1256 y1279 (x25_4 ++ [(t1283, t1284)]) (wrap64 (x26_4 + 1))) else (none)))) = some r := H
                   have A72 := Aside0.mk A720
                   clear A720
                   replace H := Option.bind_eq_some_iff.mp H
                   obtain ⟨t1283, A730, H⟩ := H
                   replace H : ((floatBits .quo .f64 t1282.2 t1252).bind fun t1284 => (if x25_4.length < 8796093022208 then (foghornlaw11_FeedbackReach.l1 k4 x1_11 l5 t1237 t1238 x17_2 t1252 t1253 t1255 t1256 y1279 (x25_4 ++ [(t1283, t1284)]) (wrap64 (x26_4 + 1))) else (none))) = some r := H
                   have A73 := Aside0.mk A730
                   clear A730
                   replace H := Option.bind_eq_some_iff.mp H
                   obtain ⟨t1284, A740, H⟩ := H
                   replace H : (if x25_4.length < 8796093022208 then (foghornlaw11_FeedbackReach.l1 k4 x1_11 l5 t1237 t1238 x17_2 t1252 t1253 t1255 t1256 y1279 (x25_4 ++ [(t1283, t1284)]) (wrap64 (x26_4 + 1))) else (none)) = some r := H
                   have A74 := Aside0.mk A740
                   clear A740
                   by_cases c75 : x25_4.length < 8796093022208
                   ·rw [if_pos c75] at H
                    have LMc75 := Aside0.mk c75
                    clear c75
                    obtain ⟨y1285, hy1285⟩ : ∃ y_ : List (Nat × Nat), y_ = (x25_4 ++ [(t1283, t1284)]) := ⟨_, rfl⟩
                    replace H : (foghornlaw11_FeedbackReach.l1 k4 x1_11 l5 t1237 t1238 x17_2 t1252 t1253 t1255 t1256 y1279 y1285 (wrap64 (x26_4 + 1))) = some r := by first | (rw [hy1285]; with_reducible exact H) | (have H2_ := (Option.bind_some _ _).symm.trans H; rw [hy1285]; with_reducible exact H2_) | (have H2_ := (Option.bind_some _ _).symm.trans H; with_reducible exact H2_) | with_reducible exact H | (rw [hy1285]; exact H) | exact H
                    have Ny1285 := Aside0.mk hy1285
                    clear hy1285
                    as_aux_lemma =>
                     have H' := Aside0.mk H
                     clear H
                     go_wp2_with (first | (go_at_call 100; (with_reducible refine (foghornlaw11_answer.calls k4 _ _ t1238 _ _ x17_2 x26_4 t1260 _ ?side1 ?side2 ?side3 ?side4 A43.out).mono ?_); (case side1 => repeat (first | exact (Kd.R_reads' HO_14.out).2.2 | (with_reducible refine Kd.C_alloc ?_ _) | (with_reducible refine Kd.C_drewN ?_ _) | (with_reducible refine Kd.C_drew ?_))); (case side2 => exact (Kd.R_reads' HO_14.out).2.1); (case side3 => repeat (first | exact (Kd.R_reads' HO_17.out).2.2 | (with_reducible refine Kd.C_alloc ?_ _) | (with_reducible refine Kd.C_drewN ?_ _) | (with_reducible refine Kd.C_drew ?_))); (case side4 => exact (Kd.R_reads' HO_17.out).2.1); rintro e w76 ⟨rfl, hb⟩; have n0_ := Aside0.mk (Kd.R_below (by (with_reducible repeat (first | apply Kd.R_alloc | apply Kd.R_drewN | apply Kd.R_drew)); exact HO_14.out) hb); have n1_ := Aside0.mk (Kd.R_below (by (with_reducible repeat (first | apply Kd.R_alloc | apply Kd.R_drewN | apply Kd.R_drew)); exact HO_17.out) hb); have n2_ := Aside0.mk (Kd.R_below (by (with_reducible repeat (first | apply Kd.R_alloc | apply Kd.R_drewN | apply Kd.R_drew)); exact HO_22.out) hb); have n3_ := Aside0.mk (Kd.R_below (by (with_reducible repeat (first | apply Kd.R_alloc | apply Kd.R_drewN | apply Kd.R_drew)); exact HO_24.out) hb); have n4_ := Aside0.mk (Kd.R_below (by (with_reducible repeat (first | apply Kd.R_alloc | apply Kd.R_drewN | apply Kd.R_drew)); exact HO_25.out) hb); have n5_ := Aside0.mk (below_step (by repeat (first | (with_reducible first | exact HB.out | apply below_alloc | apply pw_below_drewN | apply below_drew1) | exact HB.out)) hb); clear HO_14; clear HO_17; clear HO_22; clear HO_24; clear HO_25; clear HB; have HO_14 := n0_; have HO_17 := n1_; have HO_22 := n2_; have HO_24 := n3_; have HO_25 := n4_; have HB := n5_; clear n0_ n1_ n2_ n3_ n4_ n5_; (try clear hb); (try clear hb2); (try clear hk); (try clear hi); obtain ⟨Ao77, co77, eo77⟩ := Kd.R_slice HO_22.out; subst eo77; have p1261 : 0 ≤ (x26_4 : Int) := of_decide_eq_true (by first | (with_reducible assumption) | assumption); have q1261 : x26_4 < (t1256.length : Int) := of_decide_eq_true (by first | (with_reducible assumption) | assumption); obtain ⟨ad1261, e1261, hx1261_0⟩ := Kd.at_cplx (Kd.R_reads' HO_22.out).2.2 x26_4 p1261 q1261; cases e1261; replace p1261 := eq_true p1261; replace q1261 := eq_true q1261; have hfoA69_ := fun (t_ : TypeId) (w_ : World) => run_float_arith (P := Try.prog) w_ .add t_ .f64 t1260.1 0 t1277 A69.out; have hfoA70_ := fun (t_ : TypeId) (w_ : World) => run_float_arith (P := Try.prog) w_ .add t_ .f64 t1260.2 0 t1278 A70.out) | ((with_reducible refine gate_builtin (b := .append) (xs := #[.tmp 136, .tmp 149]) rfl ?_); (try (refine gate_guard (by rfl) ?_; dsimp only)); at_builtin; refine Kd.R_append k101 (w0 := w) w.heap.size rfl (.tmp 136) (.tmp 149) 95 101 (.agg #[(.complex .f64 0 0), (.bool false)]) 24 rfl Try.underlying95 info101 rfl (by decide) (by omega) u24 x24_4 (⟨(t1277, t1278), false⟩ : S101) [.complex .f64 t1277 t1278, .bool false] (fun _ => True) (fun _ => False) rfl rfl ?aP (fun _ hk => hk.elim) ?aF ?aO ?aB ?aS ?aL ?_; (case aP => exact k101_mkM _ _ _ (⟨(t1277, t1278), false⟩ : S101)); (case aB => exact (by repeat (first | (with_reducible first | exact HB.out | apply below_alloc | apply pw_below_drewN | apply below_drew1) | exact HB.out))); (case aF => exact (fun _ _ => trivial)); (case aO => exact (by (with_reducible repeat (first | apply Kd.R_alloc | apply Kd.R_drewN | apply Kd.R_drew)); exact HO_24.out)); (case aS => exact (below_size (by repeat (first | (with_reducible first | exact HB.out | apply below_alloc | apply pw_below_drewN | apply below_drew1) | exact HB.out)))); (case aL => have := LMc71.out; omega); intro v1280 w78 ho hb hg hat; rw [← Ny1279.out] at ho; have n0_ := Aside0.mk (Kd.R_over' (by (with_reducible repeat (first | apply Kd.R_alloc | apply Kd.R_drewN | apply Kd.R_drew)); exact HO_14.out) (Kd.R_typed (by (with_reducible repeat (first | apply Kd.R_alloc | apply Kd.R_drewN | apply Kd.R_drew)); exact HO_24.out)) (by decide) hg); have n1_ := Aside0.mk (Kd.R_over' (by (with_reducible repeat (first | apply Kd.R_alloc | apply Kd.R_drewN | apply Kd.R_drew)); exact HO_17.out) (Kd.R_typed (by (with_reducible repeat (first | apply Kd.R_alloc | apply Kd.R_drewN | apply Kd.R_drew)); exact HO_24.out)) (by decide) hg); have n2_ := Aside0.mk (Kd.R_over' (by (with_reducible repeat (first | apply Kd.R_alloc | apply Kd.R_drewN | apply Kd.R_drew)); exact HO_22.out) (Kd.R_typed (by (with_reducible repeat (first | apply Kd.R_alloc | apply Kd.R_drewN | apply Kd.R_drew)); exact HO_24.out)) (by decide) hg); have n3_ := Aside0.mk (Kd.R_over' (by (with_reducible repeat (first | apply Kd.R_alloc | apply Kd.R_drewN | apply Kd.R_drew)); exact HO_25.out) (Kd.R_typed (by (with_reducible repeat (first | apply Kd.R_alloc | apply Kd.R_drewN | apply Kd.R_drew)); exact HO_24.out)) (by decide) hg); have n4_ := Aside0.mk (hb); have n5_ := Aside0.mk (ho); clear HO_14; clear HO_17; clear HO_22; clear HO_25; clear HB; clear HO_24; have HO_14 := n0_; have HO_17 := n1_; have HO_22 := n2_; have HO_25 := n3_; have HB := n4_; have HO1281 := n5_; clear n0_ n1_ n2_ n3_ n4_ n5_; clear ho hb hg hat) | (go_at_call 94; (with_reducible refine (foghornref11_Turn.calls k4 (0, 0) (Int.tmod (wrap64 (4 - t1253)) 4) t1282 _ A72.out).mono ?_); rintro e w79 ⟨rfl, hb⟩; have n0_ := Aside0.mk (Kd.R_below (by (with_reducible repeat (first | apply Kd.R_alloc | apply Kd.R_drewN | apply Kd.R_drew)); exact HO_14.out) hb); have n1_ := Aside0.mk (Kd.R_below (by (with_reducible repeat (first | apply Kd.R_alloc | apply Kd.R_drewN | apply Kd.R_drew)); exact HO_17.out) hb); have n2_ := Aside0.mk (Kd.R_below (by (with_reducible repeat (first | apply Kd.R_alloc | apply Kd.R_drewN | apply Kd.R_drew)); exact HO_22.out) hb); have n3_ := Aside0.mk (Kd.R_below (by (with_reducible repeat (first | apply Kd.R_alloc | apply Kd.R_drewN | apply Kd.R_drew)); exact HO_25.out) hb); have n4_ := Aside0.mk (Kd.R_below (by (with_reducible repeat (first | apply Kd.R_alloc | apply Kd.R_drewN | apply Kd.R_drew)); exact HO1281.out) hb); have n5_ := Aside0.mk (below_step (by repeat (first | (with_reducible first | exact HB.out | apply below_alloc | apply pw_below_drewN | apply below_drew1) | exact HB.out)) hb); clear HO_14; clear HO_17; clear HO_22; clear HO_25; clear HO1281; clear HB; have HO_14 := n0_; have HO_17 := n1_; have HO_22 := n2_; have HO_25 := n3_; have HO1281 := n4_; have HB := n5_; clear n0_ n1_ n2_ n3_ n4_ n5_; (try clear hb); (try clear hb2); (try clear hk); (try clear hi); have hfoA73_ := fun (t_ : TypeId) (w_ : World) => run_float_arith (P := Try.prog) w_ .quo t_ .f64 t1282.1 t1252 t1283 A73.out; have hfoA74_ := fun (t_ : TypeId) (w_ : World) => run_float_arith (P := Try.prog) w_ .quo t_ .f64 t1282.2 t1252 t1284 A74.out) | ((with_reducible refine gate_builtin (b := .append) (xs := #[.tmp 156, .tmp 166]) rfl ?_); (try (refine gate_guard (by rfl) ?_; dsimp only)); at_builtin; refine Kd.R_append Kd.cplx (w0 := w) w.heap.size rfl (.tmp 156) (.tmp 166) 24 32 (.complex .f64 0 0) 16 rfl Try.underlying24 info32 rfl (by decide) (by omega) u25 x25_4 (t1283, t1284) [.complex .f64 t1283 t1284] (fun k_ => some k_ ≠ (.slice (some ad1251) t1238.length co35 : Value).ownBlock ∧ some k_ ≠ (.slice Ao37 x17_2.length co37 : Value).ownBlock ∧ some k_ ≠ (.slice (some ad1261) t1256.length co77 : Value).ownBlock) (fun _ => False) rfl rfl ?aP (fun _ hk => hk.elim) ?aF ?aO ?aB ?aS ?aL ?_; (case aP => exact rfl); (case aB => exact (by repeat (first | (with_reducible first | exact HB.out | apply below_alloc | apply pw_below_drewN | apply below_drew1) | exact HB.out))); (case aF => exact (fun k_ hk => ⟨Kd.fresh' (Kd.R_lt (by (with_reducible repeat (first | apply Kd.R_alloc | apply Kd.R_drewN | apply Kd.R_drew)); exact HO_14.out)) k_ hk, Kd.fresh' (Kd.R_lt (by (with_reducible repeat (first | apply Kd.R_alloc | apply Kd.R_drewN | apply Kd.R_drew)); exact HO_17.out)) k_ hk, Kd.fresh' (Kd.R_lt (by (with_reducible repeat (first | apply Kd.R_alloc | apply Kd.R_drewN | apply Kd.R_drew)); exact HO_22.out)) k_ hk⟩)); (case aO => exact (by (with_reducible repeat (first | apply Kd.R_alloc | apply Kd.R_drewN | apply Kd.R_drew)); exact HO_25.out)); (case aS => exact (below_size (by repeat (first | (with_reducible first | exact HB.out | apply below_alloc | apply pw_below_drewN | apply below_drew1) | exact HB.out)))); (case aL => have := LMc75.out; omega); intro v1286 w80 ho hb hg hat; rw [← Ny1285.out] at ho; have n0_ := Aside0.mk (Kd.R_after (ok := (fun k_ => some k_ ≠ (.slice Ao37 x17_2.length co37 : Value).ownBlock ∧ some k_ ≠ (.slice (some ad1261) t1256.length co77 : Value).ownBlock)) (by (with_reducible repeat (first | apply Kd.R_alloc | apply Kd.R_drewN | apply Kd.R_drew)); exact Kd.R_mono HO_14.out (fun _ hk => ⟨⟨hk.1, hk.2.1⟩, hk.2.2⟩)) hg hat); have n1_ := Aside0.mk (Kd.R_after (ok := (fun k_ => some k_ ≠ (.slice (some ad1251) t1238.length co35 : Value).ownBlock ∧ some k_ ≠ (.slice (some ad1261) t1256.length co77 : Value).ownBlock)) (by (with_reducible repeat (first | apply Kd.R_alloc | apply Kd.R_drewN | apply Kd.R_drew)); exact Kd.R_mono HO_17.out (fun _ hk => ⟨⟨hk.1, hk.2.1⟩, hk.2.2⟩)) hg hat); have n2_ := Aside0.mk (Kd.R_after (ok := (fun k_ => some k_ ≠ (.slice (some ad1251) t1238.length co35 : Value).ownBlock ∧ some k_ ≠ (.slice Ao37 x17_2.length co37 : Value).ownBlock)) (by (with_reducible repeat (first | apply Kd.R_alloc | apply Kd.R_drewN | apply Kd.R_drew)); exact Kd.R_mono HO_22.out (fun _ hk => ⟨⟨hk.1, hk.2.1⟩, hk.2.2⟩)) hg hat); have n3_ := Aside0.mk (Kd.R_over' (by (with_reducible repeat (first | apply Kd.R_alloc | apply Kd.R_drewN | apply Kd.R_drew)); exact HO1281.out) (Kd.R_typed (by (with_reducible repeat (first | apply Kd.R_alloc | apply Kd.R_drewN | apply Kd.R_drew)); exact HO_25.out)) (by decide) hg); have n4_ := Aside0.mk (hb); have n5_ := Aside0.mk (ho); clear HO_14; clear HO_17; clear HO_22; clear HO1281; clear HB; clear HO_25; have HO_14 := n0_; have HO_17 := n1_; have HO_22 := n2_; have HO1281 := n3_; have HB := n4_; have HO1287 := n5_; clear n0_ n1_ n2_ n3_ n4_ n5_; clear ho hb hg hat))
                     first | go_roundg k4 | (simp only [add_plain] at *; go_roundg k4)
                     case measure => have := HJ11.out; have := HK2.out; have := HJ33.out; have := HK4.out; omega
                     case rel => exact ⟨(y1279), (y1285), (wrap64 (x26_4 + 1)), (by first | rfl | (simp; done) | (simp [*]; done)), H', ⟨by have := HJ11.out; have := HK2.out; have := HJ33.out; have := HK4.out; omega⟩, ⟨by (with_reducible repeat (first | apply Kd.R_alloc | apply Kd.R_drewN | apply Kd.R_drew)); exact Kd.R_mono HO_14.out (fun _ hk => ⟨hk.1.1, ⟨hk.1.2, hk.2⟩⟩)⟩, ⟨by (with_reducible repeat (first | apply Kd.R_alloc | apply Kd.R_drewN | apply Kd.R_drew)); exact Kd.R_mono HO_17.out (fun _ hk => ⟨hk.1.1, ⟨hk.1.2, hk.2⟩⟩)⟩, ⟨by (with_reducible repeat (first | apply Kd.R_alloc | apply Kd.R_drewN | apply Kd.R_drew)); exact Kd.R_mono HO_22.out (fun _ hk => ⟨hk.1.1, ⟨hk.1.2, hk.2⟩⟩)⟩, ⟨by (with_reducible repeat (first | apply Kd.R_alloc | apply Kd.R_drewN | apply Kd.R_drew)); exact HO1281.out⟩, ⟨by (with_reducible repeat (first | apply Kd.R_alloc | apply Kd.R_drewN | apply Kd.R_drew)); exact HO1287.out⟩, ⟨by repeat (first | (with_reducible first | exact HB.out | apply below_alloc | apply pw_below_drewN | apply below_drew1) | exact HB.out)⟩⟩
                   ·rw [if_neg c75] at H
                    exact absurd H (by simp)
                  ·rw [if_neg c71] at H
                   exact absurd H (by simp)
               ·rw [if_neg c45] at H
                exact absurd H (by simp)
              ·rw [if_neg c44] at H
               exact absurd H (by simp)
             ·rw [if_neg c42] at H
              have c42b0 : decide (x26_4 < (x17_2.length : Int)) = false := decide_eq_false c42
              clear c42
              replace H := Option.bind_eq_some_iff.mp H
              obtain ⟨⟨t1288, t1289⟩, A810, H⟩ := H
              replace H : ((feedback_Residue.f k4 t1237 t1238 x24_4).bind fun bt1292 => (if t1289 = 0 then (if bt1292.2 = 0 then (if (t1288.length : Int) = (x17_2.length : Int) then ((foghornref11_Same.f k4 bt1292.1 x25_4).bind fun t1296 => (foghornlaw11_FeedbackReach.j4 k4 x1_11 t1237 x17_2 t1288 (!t1296))) else (foghornlaw11_FeedbackReach.j4 k4 x1_11 t1237 x17_2 t1288 true)) else (foghornlaw11_FeedbackReach.j4 k4 x1_11 t1237 x17_2 t1288 true)) else (foghornlaw11_FeedbackReach.j4 k4 x1_11 t1237 x17_2 t1288 true))) = some r := H
              have A81 := Aside0.mk A810
              clear A810
              replace H := Option.bind_eq_some_iff.mp H
              obtain ⟨⟨t1292, t1293⟩, A820, H⟩ := H
              replace H : (if t1289 = 0 then (if t1293 = 0 then (if (t1288.length : Int) = (x17_2.length : Int) then ((foghornref11_Same.f k4 t1292 x25_4).bind fun t1296 => (foghornlaw11_FeedbackReach.j4 k4 x1_11 t1237 x17_2 t1288 (!t1296))) else (foghornlaw11_FeedbackReach.j4 k4 x1_11 t1237 x17_2 t1288 true)) else (foghornlaw11_FeedbackReach.j4 k4 x1_11 t1237 x17_2 t1288 true)) else (foghornlaw11_FeedbackReach.j4 k4 x1_11 t1237 x17_2 t1288 true)) = some r := H
              have A82 := Aside0.mk A820
              clear A820
              have HC83 := Aside0.mk H
              clear H
              obtain ⟨Ao84, co84, eo84⟩ := Kd.R_slice HO_24.out
              subst eo84
              go_upto_region 35 with (first | (go_at_call 92; (with_reducible refine (feedback_Run.calls k4 t1237 _ _ t1238 _ _ x24_4 t1288 t1289 _ ?side1 ?side2 ?side3 ?side4 A81.out).mono ?_); (case side1 => repeat (first | exact (Kd.R_reads' HO_14.out).2.2 | (with_reducible refine Kd.C_alloc ?_ _) | (with_reducible refine Kd.C_drewN ?_ _) | (with_reducible refine Kd.C_drew ?_))); (case side2 => exact (Kd.R_reads' HO_14.out).2.1); (case side3 => repeat (first | exact (Kd.R_reads' HO_24.out).2.2 | (with_reducible refine Kd.C_alloc ?_ _) | (with_reducible refine Kd.C_drewN ?_ _) | (with_reducible refine Kd.C_drew ?_))); (case side4 => exact (Kd.R_reads' HO_24.out).2.1); rintro e w85 ⟨v1290, rfl, ho0, hb⟩; have n0_ := Aside0.mk (Kd.R_below (by (with_reducible repeat (first | apply Kd.R_alloc | apply Kd.R_drewN | apply Kd.R_drew)); exact HO_14.out) hb); have n1_ := Aside0.mk (Kd.R_below (by (with_reducible repeat (first | apply Kd.R_alloc | apply Kd.R_drewN | apply Kd.R_drew)); exact HO_17.out) hb); have n2_ := Aside0.mk (Kd.R_below (by (with_reducible repeat (first | apply Kd.R_alloc | apply Kd.R_drewN | apply Kd.R_drew)); exact HO_22.out) hb); have n3_ := Aside0.mk (Kd.R_below (by (with_reducible repeat (first | apply Kd.R_alloc | apply Kd.R_drewN | apply Kd.R_drew)); exact HO_24.out) hb); have n4_ := Aside0.mk (Kd.R_below (by (with_reducible repeat (first | apply Kd.R_alloc | apply Kd.R_drewN | apply Kd.R_drew)); exact HO_25.out) hb); have n5_ := Aside0.mk (Kd.R_lower ho0 (below_size (by repeat (first | (with_reducible first | exact HB.out | apply below_alloc | apply pw_below_drewN | apply below_drew1) | exact HB.out)))); have n6_ := Aside0.mk (below_step (by repeat (first | (with_reducible first | exact HB.out | apply below_alloc | apply pw_below_drewN | apply below_drew1) | exact HB.out)) hb); clear HO_14; clear HO_17; clear HO_22; clear HO_24; clear HO_25; clear HB; have HO_14 := n0_; have HO_17 := n1_; have HO_22 := n2_; have HO_24 := n3_; have HO_25 := n4_; have HO1291 := n5_; have HB := n6_; clear n0_ n1_ n2_ n3_ n4_ n5_ n6_; (try clear hb); (try clear hb2); (try clear hk); (try clear hi); (try clear ho0)) | (go_at_call 96; (with_reducible refine (feedback_Residue.calls k4 t1237 _ _ t1238 _ _ x24_4 t1292 t1293 _ ?side1 ?side2 ?side3 ?side4 A82.out).mono ?_); (case side1 => repeat (first | exact (Kd.R_reads' HO_14.out).2.2 | (with_reducible refine Kd.C_alloc ?_ _) | (with_reducible refine Kd.C_drewN ?_ _) | (with_reducible refine Kd.C_drew ?_))); (case side2 => exact (Kd.R_reads' HO_14.out).2.1); (case side3 => repeat (first | exact (Kd.R_reads' HO_24.out).2.2 | (with_reducible refine Kd.C_alloc ?_ _) | (with_reducible refine Kd.C_drewN ?_ _) | (with_reducible refine Kd.C_drew ?_))); (case side4 => exact (Kd.R_reads' HO_24.out).2.1); rintro e w86 ⟨v1294, rfl, ho0, hb⟩; have n0_ := Aside0.mk (Kd.R_elder' (by (with_reducible repeat (first | apply Kd.R_alloc | apply Kd.R_drewN | apply Kd.R_drew)); exact HO_14.out) (Kd.R_base ho0) hb); have n1_ := Aside0.mk (Kd.R_elder' (by (with_reducible repeat (first | apply Kd.R_alloc | apply Kd.R_drewN | apply Kd.R_drew)); exact HO_17.out) (Kd.R_base ho0) hb); have n2_ := Aside0.mk (Kd.R_elder' (by (with_reducible repeat (first | apply Kd.R_alloc | apply Kd.R_drewN | apply Kd.R_drew)); exact HO_22.out) (Kd.R_base ho0) hb); have n3_ := Aside0.mk (Kd.R_below (by (with_reducible repeat (first | apply Kd.R_alloc | apply Kd.R_drewN | apply Kd.R_drew)); exact HO_24.out) hb); have n4_ := Aside0.mk (Kd.R_elder' (by (with_reducible repeat (first | apply Kd.R_alloc | apply Kd.R_drewN | apply Kd.R_drew)); exact HO_25.out) (Kd.R_base ho0) hb); have n5_ := Aside0.mk (Kd.R_below (by (with_reducible repeat (first | apply Kd.R_alloc | apply Kd.R_drewN | apply Kd.R_drew)); exact HO1291.out) hb); have n6_ := Aside0.mk (Kd.R_lower (Kd.R_new' (Kd.R_new' (Kd.R_new' (Kd.R_new' ho0 (Kd.R_lt (by (with_reducible repeat (first | apply Kd.R_alloc | apply Kd.R_drewN | apply Kd.R_drew)); exact HO_14.out))) (Kd.R_lt (by (with_reducible repeat (first | apply Kd.R_alloc | apply Kd.R_drewN | apply Kd.R_drew)); exact HO_17.out))) (Kd.R_lt (by (with_reducible repeat (first | apply Kd.R_alloc | apply Kd.R_drewN | apply Kd.R_drew)); exact HO_22.out))) (Kd.R_lt (by (with_reducible repeat (first | apply Kd.R_alloc | apply Kd.R_drewN | apply Kd.R_drew)); exact HO_25.out))) (below_size (by repeat (first | (with_reducible first | exact HB.out | apply below_alloc | apply pw_below_drewN | apply below_drew1) | exact HB.out)))); have n7_ := Aside0.mk (below_step (by repeat (first | (with_reducible first | exact HB.out | apply below_alloc | apply pw_below_drewN | apply below_drew1) | exact HB.out)) hb); clear HO_14; clear HO_17; clear HO_22; clear HO_24; clear HO_25; clear HO1291; clear HB; have HO_14 := n0_; have HO_17 := n1_; have HO_22 := n2_; have HO_24 := n3_; have HO_25 := n4_; have HO1291 := n5_; have HO1295 := n6_; have HB := n7_; clear n0_ n1_ n2_ n3_ n4_ n5_ n6_ n7_; (try clear hb); (try clear hb2); (try clear hk); (try clear hi); (try clear ho0)))
              (try simp only [Act.put, List.setIfInBounds_toArray, List.set_cons_zero, List.set_cons_succ])
              go_cut [200] (fun v200 wc => ∃ (kq : Nat) (x200_82 : Bool), v200 = .bool x200_82 ∧ Aside0 (foghornlaw11_FeedbackReach.j4 kq x1_11 t1237 x17_2 t1288 x200_82 = some r) ∧ Aside0 (kq ≤ k4) ∧ Aside0 (Kd.R Kd.cplx 32 wc w.heap.size (fun _ => True) (.slice Ao37 x17_2.length co37) x17_2) ∧ Aside0 (Kd.R k83 83 wc w.heap.size (fun _ => True) v1290 t1288) ∧ Aside0 (Below w.heap.size w wc))
              case first =>
               have H := HC83.out
               clear HC83
               by_cases c87 : t1289 = 0
               ·rw [if_pos c87] at H
                have c87b0 : (t1289 == 0) = true := beq_iff_eq.mpr c87
                have c87b1 : (t1289 != 0) = false := bne_eq_false_iff_eq.mpr c87
                clear c87
                (first | rw [c87b0] | (simp only [i64_w, i32_w]; rw [c87b0]) | skip)
                by_cases c88 : t1293 = 0
                ·rw [if_pos c88] at H
                 have c88b0 : (t1293 == 0) = true := beq_iff_eq.mpr c88
                 have c88b1 : (t1293 != 0) = false := bne_eq_false_iff_eq.mpr c88
                 clear c88
                 by_cases c89 : (t1288.length : Int) = (x17_2.length : Int)
                 ·rw [if_pos c89] at H
                  have c89b0 : ((t1288.length : Int) == (x17_2.length : Int)) = true := beq_iff_eq.mpr c89
                  have c89b1 : ((t1288.length : Int) != (x17_2.length : Int)) = false := bne_eq_false_iff_eq.mpr c89
                  have c89b2 : (t1288.length == x17_2.length) = true := by first | simpa using c89 | (simp at c89 ⊢; omega)
                  clear c89
                  replace H := Option.bind_eq_some_iff.mp H
                  obtain ⟨t1296, A900, H⟩ := H
                  replace H : (foghornlaw11_FeedbackReach.j4 k4 x1_11 t1237 x17_2 t1288 (!t1296)) = some r := H
                  have A90 := Aside0.mk A900
                  clear A900
                  as_aux_lemma =>
                   have H' := Aside0.mk H
                   clear H
                   obtain ⟨Ao91, co91, eo91⟩ := Kd.R_slice HO1291.out
                   subst eo91
                   obtain ⟨Ao92, co92, eo92⟩ := Kd.R_slice HO1295.out
                   subst eo92
                   obtain ⟨Ao93, co93, eo93⟩ := Kd.R_slice HO_25.out
                   subst eo93
                   go_wp2_with (go_at_call 30; (with_reducible refine (foghornref11_Same.calls k4 _ _ t1292 _ _ x25_4 t1296 _ ?side1 ?side2 ?side3 ?side4 A90.out).mono ?_); (case side1 => repeat (first | exact (Kd.R_reads' HO1295.out).2.2 | (with_reducible refine Kd.C_alloc ?_ _) | (with_reducible refine Kd.C_drewN ?_ _) | (with_reducible refine Kd.C_drew ?_))); (case side2 => exact (Kd.R_reads' HO1295.out).2.1); (case side3 => repeat (first | exact (Kd.R_reads' HO_25.out).2.2 | (with_reducible refine Kd.C_alloc ?_ _) | (with_reducible refine Kd.C_drewN ?_ _) | (with_reducible refine Kd.C_drew ?_))); (case side4 => exact (Kd.R_reads' HO_25.out).2.1); rintro e w' ⟨rfl, ⟨nd, rfl⟩⟩; (try first | exact ⟨rfl, _, World.drewN_drewN _ _ _⟩ | exact ⟨rfl, _, Eq.trans (World.drewN_drewN _ _ _) (congrArg (World.drewN _) (Nat.add_assoc _ _ _))⟩))
                   go_meet
                   case rel => exact ⟨_, (!t1296), (by first | rfl | (simp; done) | (simp [*]; done)), H', ⟨by have := HJ11.out; have := HK2.out; have := HJ33.out; have := HK4.out; first | omega | exact Nat.le_refl _⟩, ⟨by (with_reducible repeat (first | apply Kd.R_alloc | apply Kd.R_drewN | apply Kd.R_drew)); exact Kd.R_mono HO_17.out (fun _ hk => trivial)⟩, ⟨by (with_reducible repeat (first | apply Kd.R_alloc | apply Kd.R_drewN | apply Kd.R_drew)); exact HO1291.out⟩, ⟨by repeat (first | (with_reducible first | exact HB.out | apply below_alloc | apply pw_below_drewN | apply below_drew1) | exact HB.out)⟩⟩
                 ·rw [if_neg c89] at H
                  have c89b0 : ((t1288.length : Int) == (x17_2.length : Int)) = false := beq_eq_false_iff_ne.mpr c89
                  have c89b1 : ((t1288.length : Int) != (x17_2.length : Int)) = true := bne_iff_ne.mpr c89
                  have c89b2 : (t1288.length == x17_2.length) = false := by first | simpa using c89 | (simp at c89 ⊢; omega)
                  as_aux_lemma =>
                   have H' := Aside0.mk H
                   clear H
                   obtain ⟨Ao94, co94, eo94⟩ := Kd.R_slice HO1291.out
                   subst eo94
                   go_wp2
                   go_meet
                   case rel => exact ⟨_, (true), (by first | rfl | (simp; done) | (simp [*]; done)), H', ⟨by have := HJ11.out; have := HK2.out; have := HJ33.out; have := HK4.out; first | omega | exact Nat.le_refl _⟩, ⟨by (with_reducible repeat (first | apply Kd.R_alloc | apply Kd.R_drewN | apply Kd.R_drew)); exact Kd.R_mono HO_17.out (fun _ hk => trivial)⟩, ⟨by (with_reducible repeat (first | apply Kd.R_alloc | apply Kd.R_drewN | apply Kd.R_drew)); exact HO1291.out⟩, ⟨by repeat (first | (with_reducible first | exact HB.out | apply below_alloc | apply pw_below_drewN | apply below_drew1) | exact HB.out)⟩⟩
                ·rw [if_neg c88] at H
                 have c88b0 : (t1293 == 0) = false := beq_eq_false_iff_ne.mpr c88
                 have c88b1 : (t1293 != 0) = true := bne_iff_ne.mpr c88
                 as_aux_lemma =>
                  have H' := Aside0.mk H
                  clear H
                  go_wp2
                  go_meet
                  case rel => exact ⟨_, (true), (by first | rfl | (simp; done) | (simp [*]; done)), H', ⟨by have := HJ11.out; have := HK2.out; have := HJ33.out; have := HK4.out; first | omega | exact Nat.le_refl _⟩, ⟨by (with_reducible repeat (first | apply Kd.R_alloc | apply Kd.R_drewN | apply Kd.R_drew)); exact Kd.R_mono HO_17.out (fun _ hk => trivial)⟩, ⟨by (with_reducible repeat (first | apply Kd.R_alloc | apply Kd.R_drewN | apply Kd.R_drew)); exact HO1291.out⟩, ⟨by repeat (first | (with_reducible first | exact HB.out | apply below_alloc | apply pw_below_drewN | apply below_drew1) | exact HB.out)⟩⟩
               ·rw [if_neg c87] at H
                have c87b0 : (t1289 == 0) = false := beq_eq_false_iff_ne.mpr c87
                have c87b1 : (t1289 != 0) = true := bne_iff_ne.mpr c87
                (first | rw [c87b0] | (simp only [i64_w, i32_w]; rw [c87b0]) | skip)
                as_aux_lemma =>
                 have H' := Aside0.mk H
                 clear H
                 go_wp2
                 go_meet
                 case rel => exact ⟨_, (true), (by first | rfl | (simp; done) | (simp [*]; done)), H', ⟨by have := HJ11.out; have := HK2.out; have := HJ33.out; have := HK4.out; first | omega | exact Nat.le_refl _⟩, ⟨by (with_reducible repeat (first | apply Kd.R_alloc | apply Kd.R_drewN | apply Kd.R_drew)); exact Kd.R_mono HO_17.out (fun _ hk => trivial)⟩, ⟨by (with_reducible repeat (first | apply Kd.R_alloc | apply Kd.R_drewN | apply Kd.R_drew)); exact HO1291.out⟩, ⟨by repeat (first | (with_reducible first | exact HB.out | apply below_alloc | apply pw_below_drewN | apply below_drew1) | exact HB.out)⟩⟩
              case rest =>
               clear HC83
               try clear c1
               try clear p1
               try clear q1
               try clear hx1
               try clear qi1
               try clear c2
               try clear p2
               try clear c3
               try clear c4
               try clear c5
               try clear c6
               try clear p6
               try clear c7
               try clear c8
               try clear c9
               try clear p12
               try clear q12
               try clear hx12
               try clear qi12
               try clear c17
               try clear c17b0
               try clear c17b1
               try clear c18
               try clear c18b0
               try clear c18b1
               try clear c20
               try clear c20b0
               try clear c21
               try clear c21b0
               try clear c22
               try clear c22b0
               try clear c22b1
               try clear c24
               try clear c24b0
               try clear c25
               try clear c25b0
               try clear c26
               try clear c29
               try clear c29b0
               try clear c29b1
               try clear c39
               try clear c39b0
               try clear c39b1
               try clear c41
               try clear c42
               try clear c42b0
               try clear c44
               try clear c44b0
               try clear c45
               try clear c45b0
               try clear c46
               try clear c46b0
               try clear c47
               try clear c47b0
               try clear c47b1
               try clear c48
               try clear c48b0
               try clear c48b1
               try clear c48b2
               try clear c50
               try clear c50b0
               try clear c51
               try clear c51b0
               try clear c52
               try clear c52b0
               try clear c52b1
               try clear c57
               try clear c61
               try clear p64
               try clear c71
               try clear c75
               try clear c87
               try clear c87b0
               try clear c87b1
               try clear c88
               try clear c88b0
               try clear c88b1
               try clear c89
               try clear c89b0
               try clear c89b1
               try clear c89b2
               try clear c90
               try clear hcz65_0
               try clear hcz65_1
               try clear hfz65_0
               try clear hfz65_1
               try clear hx1246_0
               try clear hx1247_0
               try clear hx1251_0
               try clear hx1261_0
               try clear hx1262_0
               try clear hx1262_1
               try clear p1
               try clear p12
               try clear p1246
               try clear p1247
               try clear p1251
               try clear p1261
               try clear p1262
               try clear p2
               try clear p6
               try clear q1
               try clear q12
               try clear q1246
               try clear q1247
               try clear q1251
               try clear q1261
               try clear q1262
               obtain ⟨kq, x200_82, rfl, HA, HJ82, HO_17, HO_30, HB⟩ := hcut
               cases kq with
               | zero => exact absurd HA.out (by simp [foghornlaw11_FeedbackReach.j4])
               | succ kj82 =>
                have H := HA.out
                clear HA
                simp only [foghornlaw11_FeedbackReach.j4] at H
                by_cases c95 : x200_82 = true
                ·subst c95
                 have H1 : (some false) = some r := by rw [if_pos rfl] at H; exact H
                 clear H
                 have H := H1
                 clear H1
                 as_aux_lemma =>
                  exact absurd ((Option.some.inj H).trans HQ_.out) (by decide)
                ·replace c95 := Bool.eq_false_iff.mpr c95
                 subst c95
                 have H1 : (foghornlaw11_FeedbackReach.l2 kj82 x1_11 t1237 x17_2 t1288 0) = some r := by rw [if_neg (show ¬ (false = true) by decide)] at H; exact H
                 clear H
                 have H := H1
                 clear H1
                 have H' := Aside0.mk H
                 clear H
                 go_wp2
                 go_loopg [34] kj82 (fun kq v34 w' => ∃ (x34_6 : Int), v34 = .int .i64 x34_6 ∧ Aside0 (foghornlaw11_FeedbackReach.l2 kq x1_11 t1237 x17_2 t1288 x34_6 = some r) ∧ Aside0 (kq ≤ kj82) ∧ Aside0 (Kd.R Kd.cplx 32 w' w.heap.size (fun _ => True) (.slice Ao37 x17_2.length co37) x17_2) ∧ Aside0 (Kd.R k83 83 w' w.heap.size (fun _ => True) v1290 t1288) ∧ Aside0 (Below w.heap.size w w'))
                 case atStart => exact ⟨(0), (by first | rfl | (simp; done) | (simp [*]; done)), H', ⟨Nat.le_refl _⟩, ⟨by (with_reducible repeat (first | apply Kd.R_alloc | apply Kd.R_drewN | apply Kd.R_drew)); exact HO_17.out⟩, ⟨by (with_reducible repeat (first | apply Kd.R_alloc | apply Kd.R_drewN | apply Kd.R_drew)); exact HO_30.out⟩, ⟨by repeat (first | (with_reducible first | exact HB.out | apply below_alloc | apply pw_below_drewN | apply below_drew1) | exact HB.out)⟩⟩
                 case round =>
                  clear H'
                  try clear c1
                  try clear p1
                  try clear q1
                  try clear hx1
                  try clear qi1
                  try clear c2
                  try clear p2
                  try clear c3
                  try clear c4
                  try clear c5
                  try clear c6
                  try clear p6
                  try clear c7
                  try clear c8
                  try clear c9
                  try clear p12
                  try clear q12
                  try clear hx12
                  try clear qi12
                  try clear c17
                  try clear c17b0
                  try clear c17b1
                  try clear c18
                  try clear c18b0
                  try clear c18b1
                  try clear c20
                  try clear c20b0
                  try clear c21
                  try clear c21b0
                  try clear c22
                  try clear c22b0
                  try clear c22b1
                  try clear c24
                  try clear c24b0
                  try clear c25
                  try clear c25b0
                  try clear c26
                  try clear c29
                  try clear c29b0
                  try clear c29b1
                  try clear c39
                  try clear c39b0
                  try clear c39b1
                  try clear c41
                  try clear c42
                  try clear c42b0
                  try clear c44
                  try clear c44b0
                  try clear c45
                  try clear c45b0
                  try clear c46
                  try clear c46b0
                  try clear c47
                  try clear c47b0
                  try clear c47b1
                  try clear c48
                  try clear c48b0
                  try clear c48b1
                  try clear c48b2
                  try clear c50
                  try clear c50b0
                  try clear c51
                  try clear c51b0
                  try clear c52
                  try clear c52b0
                  try clear c52b1
                  try clear c57
                  try clear c61
                  try clear p64
                  try clear c71
                  try clear c75
                  try clear c87
                  try clear c87b0
                  try clear c87b1
                  try clear c88
                  try clear c88b0
                  try clear c88b1
                  try clear c89
                  try clear c89b0
                  try clear c89b1
                  try clear c89b2
                  try clear c90
                  try clear c95
                  try clear hcz65_0
                  try clear hcz65_1
                  try clear hfz65_0
                  try clear hfz65_1
                  try clear hx1246_0
                  try clear hx1247_0
                  try clear hx1251_0
                  try clear hx1261_0
                  try clear hx1262_0
                  try clear hx1262_1
                  try clear p1
                  try clear p12
                  try clear p1246
                  try clear p1247
                  try clear p1251
                  try clear p1261
                  try clear p1262
                  try clear p2
                  try clear p6
                  try clear p64
                  try clear q1
                  try clear q12
                  try clear q1246
                  try clear q1247
                  try clear q1251
                  try clear q1261
                  try clear q1262
                  obtain ⟨x34_6, rfl, HA, HK6, HO_17, HO_30, HB⟩ := hrel
                  cases gk with
                  | zero => exact absurd HA.out (by simp [foghornlaw11_FeedbackReach.l2])
                  | succ k6 =>
                   have H := HA.out
                   clear HA
                   simp only [foghornlaw11_FeedbackReach.l2] at H
                   by_cases c96 : x34_6 < (t1288.length : Int)
                   ·rw [if_pos c96] at H
                    have c96b0 : decide (x34_6 < (t1288.length : Int)) = true := decide_eq_true c96
                    clear c96
                    by_cases c97 : 0 ≤ x34_6
                    ·rw [if_pos c97] at H
                     have c97b0 : decide (0 ≤ x34_6) = true := decide_eq_true c97
                     clear c97
                     obtain ⟨bq98, hbq98⟩ : ∃ b_ : Bool, b_ = ((rd_T83 t1288 x34_6).f2) := ⟨_, rfl⟩
                     replace H : (if bq98 = true then (some false) else (if x34_6 < (x17_2.length : Int) then (if (!((FloatKind.f64.format.order (((rd_T83 t1288 x34_6).f1).1) ((rdOf (0, 0) x17_2 x34_6).1) == some .eq) && (FloatKind.f64.format.order (((rd_T83 t1288 x34_6).f1).2) ((rdOf (0, 0) x17_2 x34_6).2) == some .eq))) = true then (some false) else (if x34_6 < (x1_11.length : Int) then (if t1237 = 0 then (none) else (if ((rd_T83 t1288 x34_6).f0) = (Int.tmod (wrap64 (rd x1_11 x34_6)) t1237) then (foghornlaw11_FeedbackReach.l2 k6 x1_11 t1237 x17_2 t1288 (wrap64 (x34_6 + 1))) else (some false))) else (none))) else (none))) = some r := by rw [← hbq98] at H; exact H
                     have Nbq98 := Aside0.mk hbq98
                     clear hbq98
                     by_cases c99 : bq98 = true
                     ·subst c99
                      have H1 : (some false) = some r := by rw [if_pos rfl] at H; exact H
                      clear H
                      have H := H1
                      clear H1
                      as_aux_lemma =>
                       exact absurd ((Option.some.inj H).trans HQ_.out) (by decide)
                     ·replace c99 := Bool.eq_false_iff.mpr c99
                      subst c99
                      have H1 : (if x34_6 < (x17_2.length : Int) then (if (!((FloatKind.f64.format.order (((rd_T83 t1288 x34_6).f1).1) ((rdOf (0, 0) x17_2 x34_6).1) == some .eq) && (FloatKind.f64.format.order (((rd_T83 t1288 x34_6).f1).2) ((rdOf (0, 0) x17_2 x34_6).2) == some .eq))) = true then (some false) else (if x34_6 < (x1_11.length : Int) then (if t1237 = 0 then (none) else (if ((rd_T83 t1288 x34_6).f0) = (Int.tmod (wrap64 (rd x1_11 x34_6)) t1237) then (foghornlaw11_FeedbackReach.l2 k6 x1_11 t1237 x17_2 t1288 (wrap64 (x34_6 + 1))) else (some false))) else (none))) else (none)) = some r := by rw [if_neg (show ¬ (false = true) by decide)] at H; exact H
                      clear H
                      have H := H1
                      clear H1
                      by_cases c100 : x34_6 < (x17_2.length : Int)
                      ·rw [if_pos c100] at H
                       have c100b0 : decide (x34_6 < (x17_2.length : Int)) = true := decide_eq_true c100
                       clear c100
                       by_cases c101 : (!((FloatKind.f64.format.order (((rd_T83 t1288 x34_6).f1).1) ((rdOf (0, 0) x17_2 x34_6).1) == some .eq) && (FloatKind.f64.format.order (((rd_T83 t1288 x34_6).f1).2) ((rdOf (0, 0) x17_2 x34_6).2) == some .eq))) = true
                       ·rw [if_pos c101] at H
                        have c101b0 : (!((FloatKind.f64.format.order (((rd_T83 t1288 x34_6).f1).1) ((rdOf (0, 0) x17_2 x34_6).1) == some .eq) && (FloatKind.f64.format.order (((rd_T83 t1288 x34_6).f1).2) ((rdOf (0, 0) x17_2 x34_6).2) == some .eq))) = true := c101
                        clear c101
                        as_aux_lemma =>
                         exact absurd ((Option.some.inj H).trans HQ_.out) (by decide)
                       ·rw [if_neg c101] at H
                        have c101b0 : (!((FloatKind.f64.format.order (((rd_T83 t1288 x34_6).f1).1) ((rdOf (0, 0) x17_2 x34_6).1) == some .eq) && (FloatKind.f64.format.order (((rd_T83 t1288 x34_6).f1).2) ((rdOf (0, 0) x17_2 x34_6).2) == some .eq))) = false := by simpa using c101
                        clear c101
                        by_cases c102 : x34_6 < (x1_11.length : Int)
                        ·rw [if_pos c102] at H
                         have c102b0 : decide (x34_6 < (x1_11.length : Int)) = true := decide_eq_true c102
                         clear c102
                         by_cases c103 : t1237 = 0
                         ·rw [if_pos c103] at H
                          exact absurd H (by simp)
                         ·rw [if_neg c103] at H
                          have c103b0 : (t1237 == 0) = false := beq_eq_false_iff_ne.mpr c103
                          have c103b1 : (t1237 != 0) = true := bne_iff_ne.mpr c103
                          by_cases c104 : ((rd_T83 t1288 x34_6).f0) = (Int.tmod (wrap64 (rd x1_11 x34_6)) t1237)
                          ·rw [if_pos c104] at H
                           have c104b0 : (((rd_T83 t1288 x34_6).f0) == (Int.tmod (wrap64 (rd x1_11 x34_6)) t1237)) = true := beq_iff_eq.mpr c104
                           have c104b1 : (((rd_T83 t1288 x34_6).f0) != (Int.tmod (wrap64 (rd x1_11 x34_6)) t1237)) = false := bne_eq_false_iff_eq.mpr c104
                           clear c104
                           as_aux_lemma =>
                            have H' := Aside0.mk H
                            clear H
                            obtain ⟨Ao105, co105, eo105⟩ := Kd.R_slice HO_30.out
                            subst eo105
                            have p1297 : 0 ≤ (x34_6 : Int) := of_decide_eq_true (by first | (with_reducible assumption) | assumption)
                            have q1297 : x34_6 < (t1288.length : Int) := of_decide_eq_true (by first | (with_reducible assumption) | assumption)
                            obtain ⟨ad1297, e1297, hx1297_0, hx1297_1, hx1297_2⟩ := at_T83 (Kd.R_reads' HO_30.out).2.2 x34_6 p1297 q1297
                            (try rw [← Nbq98.out] at hx1297_2)
                            cases e1297
                            replace p1297 := eq_true p1297
                            replace q1297 := eq_true q1297
                            have p1298 : 0 ≤ (x34_6 : Int) := of_decide_eq_true (by first | (with_reducible assumption) | assumption)
                            have q1298 : x34_6 < (t1288.length : Int) := of_decide_eq_true (by first | (with_reducible assumption) | assumption)
                            obtain ⟨ad1298, e1298, hx1298_0, hx1298_1, hx1298_2⟩ := at_T83 (Kd.R_reads' HO_30.out).2.2 x34_6 p1298 q1298
                            (try rw [← Nbq98.out] at hx1298_2)
                            obtain rfl : ad1297 = ad1298 := (by injection e1298)
                            replace p1298 := eq_true p1298
                            replace q1298 := eq_true q1298
                            have p1299 : 0 ≤ (x34_6 : Int) := of_decide_eq_true (by first | (with_reducible assumption) | assumption)
                            have q1299 : x34_6 < (x17_2.length : Int) := of_decide_eq_true (by first | (with_reducible assumption) | assumption)
                            obtain ⟨ad1299, e1299, hx1299_0⟩ := Kd.at_cplx (Kd.R_reads' HO_17.out).2.2 x34_6 p1299 q1299
                            cases e1299
                            replace p1299 := eq_true p1299
                            replace q1299 := eq_true q1299
                            have p1300 : 0 ≤ (x34_6 : Int) := of_decide_eq_true (by first | (with_reducible assumption) | assumption)
                            have q1300 : x34_6 < (t1288.length : Int) := of_decide_eq_true (by first | (with_reducible assumption) | assumption)
                            obtain ⟨ad1300, e1300, hx1300_0, hx1300_1, hx1300_2⟩ := at_T83 (Kd.R_reads' HO_30.out).2.2 x34_6 p1300 q1300
                            (try rw [← Nbq98.out] at hx1300_2)
                            obtain rfl : ad1297 = ad1300 := (by injection e1300)
                            replace p1300 := eq_true p1300
                            replace q1300 := eq_true q1300
                            have p1301 : 0 ≤ (x34_6 : Int) := of_decide_eq_true (by first | (with_reducible assumption) | assumption)
                            have q1301 : x34_6 < (x1_11.length : Int) := of_decide_eq_true (by first | (with_reducible assumption) | assumption)
                            obtain ⟨ad1301, e1301, hx1301_0⟩ := Kd.at_int HR9001.out x34_6 p1301 q1301
                            cases e1301
                            replace hx1301_0 := (HB.out.cell (World.block_lt_of_cell? w _ hx1301_0)).trans hx1301_0
                            replace p1301 := eq_true p1301
                            replace q1301 := eq_true q1301
                            go_wp2
                            repeat (go_quiet (fail); try go_wp2)
                            first | go_roundg k6 | (simp only [add_plain] at *; go_roundg k6)
                            case measure => have := HJ11.out; have := HK2.out; have := HJ33.out; have := HK4.out; have := HJ82.out; have := HK6.out; omega
                            case rel => exact ⟨(wrap64 (x34_6 + 1)), (by first | rfl | (simp; done) | (simp [*]; done)), H', ⟨by have := HJ11.out; have := HK2.out; have := HJ33.out; have := HK4.out; have := HJ82.out; have := HK6.out; omega⟩, ⟨by (with_reducible repeat (first | apply Kd.R_alloc | apply Kd.R_drewN | apply Kd.R_drew)); exact HO_17.out⟩, ⟨by (with_reducible repeat (first | apply Kd.R_alloc | apply Kd.R_drewN | apply Kd.R_drew)); exact HO_30.out⟩, ⟨by repeat (first | (with_reducible first | exact HB.out | apply below_alloc | apply pw_below_drewN | apply below_drew1) | exact HB.out)⟩⟩
                          ·rw [if_neg c104] at H
                           have c104b0 : (((rd_T83 t1288 x34_6).f0) == (Int.tmod (wrap64 (rd x1_11 x34_6)) t1237)) = false := beq_eq_false_iff_ne.mpr c104
                           have c104b1 : (((rd_T83 t1288 x34_6).f0) != (Int.tmod (wrap64 (rd x1_11 x34_6)) t1237)) = true := bne_iff_ne.mpr c104
                           as_aux_lemma =>
                            exact absurd ((Option.some.inj H).trans HQ_.out) (by decide)
                        ·rw [if_neg c102] at H
                         exact absurd H (by simp)
                      ·rw [if_neg c100] at H
                       exact absurd H (by simp)
                    ·rw [if_neg c97] at H
                     exact absurd H (by simp)
                   ·rw [if_neg c96] at H
                    have c96b0 : decide (x34_6 < (t1288.length : Int)) = false := decide_eq_false c96
                    clear c96
                    as_aux_lemma =>
                     obtain rfl := Option.some.inj H
                     obtain ⟨Ao106, co106, eo106⟩ := Kd.R_slice HO_30.out
                     subst eo106
                     go_wp2
                     go_ret
                     exact ⟨by first | rfl | (simp [errW_none, errW_some] <;> rfl) | (simp [*, errW_none, errW_some] <;> rfl), by repeat (first | (with_reducible first | exact HB.out | apply below_alloc | apply pw_below_drewN | apply below_drew1) | exact HB.out)⟩
       ·rw [if_neg c29] at H
        exact absurd H (by simp)
 ·replace c8 := Bool.eq_false_iff.mpr c8
  subst c8
  have H1 : (some false) = some r := by rw [if_neg (show ¬ (false = true) by decide)] at H; exact H
  clear H
  have H := H1
  clear H1
  as_aux_lemma =>
   exact absurd ((Option.some.inj H).trans HQ_.out) (by decide)
theorem foghornlaw11_FeedbackReach.walk (P : foghornlaw11_FeedbackReach.Pure) (a0 : Int) (A1 : Option Addr) (c1 : Nat) (l1 : List Int) (a2 : Int) (a3 : Int) (A4 : Option Addr) (c4 : Nat) (l4 : List (S174)) (A5 : Option Addr) (c5 : Nat) (l5 : List (S171)) (w : World) (hr1 : Kd.C (Kd.int .u8) w A1 l1.length l1) (hc1 : l1.length ≤ c1) (hr4 : Kd.C k174 w A4 l4.length l4) (hc4 : l4.length ≤ c4) (hr5 : Kd.C k171 w A5 l5.length l5) (hc5 : l5.length ≤ c5) (hw0 : (Lit.int .i64 a0).wf = true) (hw1 : l1.length * 1 ≤ 140737488351232 ∧ ∀ x ∈ l1, (fun y_ : Int => (Lit.int .u8 y_).wf = true) x) (hw2 : (Lit.int .i64 a2).wf = true) (hw3 : (Lit.int .i64 a3).wf = true) (hw4 : l4.length * 24 ≤ 140737488351232 ∧ ∀ x ∈ l4, (fun y_ : S174 => ((Lit.int .i64 y_.f0).wf = true) ∧ ((Lit.int .i64 y_.f1).wf = true) ∧ (True)) x) (hw5 : l5.length * 8 ≤ 140737488351232 ∧ ∀ x ∈ l5, (fun y_ : S171 => ((Lit.int .i32 y_.f0).wf = true) ∧ ((Lit.int .i32 y_.f1).wf = true)) x) :
  Calls Try.prog 22 #[.int .i64 a0, .slice A1 l1.length c1, .int .i64 a2, .int .i64 a3, .slice A4 l4.length c4, .slice A5 l5.length c5] w fun e w' => e = .returned (.bool true) ∧ Below w.heap.size w w' := by
 obtain ⟨k, h⟩ := P a0 l1 a2 a3 l4 l5 hw0 hw1 hw2 hw3 hw4 hw5
 refine (foghornlaw11_FeedbackReach.calls k a0 _ _ l1 a2 a3 _ _ l4 _ _ l5 true w hr1 hc1 hr4 hc4 hr5 hc5 h rfl).mono ?_
 rintro e w' ⟨rfl, hd⟩
 exact ⟨rfl, hd⟩
end Go.Proofs.Ythfcafllcgjepaa.Q
