import Derived.Shelf.Strings.Builder1
import Derived.Test.YtncoakokdajibaaMendManyK0
import Derived.Test.YtncoakokdajibaaMendManyF1
import Derived.Test.YtncoakokdajibaaMendManyQ3
import Derived.Test.YtncoakokdajibaaMendManyQ10
-- Printed by myprint.py (ours) over the kit's printer, out of the translation.
namespace Go.Proofs.Ytncoakokdajibaa.Q
open Go.RowKit Go.Proofs.YtncoakokdajibaaW.PrintWords Go.Proofs.YtncoakokdajibaaW.PrintLast Go.Proofs.YtncoakokdajibaaW.PrintMore
attribute [local go_sem] ArrW.ptrOf_slice unary_neg_float unary_neg_complex run_store_float run_store_complex max2_int min2_int max_two min_two max_three min_three max_four min_four   -- for this text's walks alone
set_option linter.unusedVariables false
set_option linter.unusedSimpArgs false
set_option maxHeartbeats 8000000 in
set_option maxRecDepth 100000 in
theorem foghornref20_Message.calls (k : Nat) (A0 : Option Addr) (c0 : Nat) (l0 : List ByteArray) (a1 : Int) (A2 : Option Addr) (c2 : Nat) (l2 : List (List Int)) (r1 : ByteArray) (r2 : Int) (w : World) (hr0 : Kd.C Kd.string w A0 l0.length l0) (hc0 : l0.length ≤ c0) (hr2 : Kd.C (Kd.slice 3 (Kd.int .i64)) w A2 l2.length l2) (hc2 : l2.length ≤ c2) (h : foghornref20_Message.f k l0 a1 l2 = some (r1, r2)) :
  Calls Try.prog 62 #[.slice A0 l0.length c0, .int .i64 a1, .slice A2 l2.length c2] w fun e w' => e = .returned (.tuple #[.string r1, .int .i64 r2]) ∧ Below w.heap.size w w' := by
 have HR0 := Aside0.mk hr0
 have HC0 := Aside0.mk hc0
 clear hr0 hc0
 have HR2 := Aside0.mk hr2
 have HC2 := Aside0.mk hc2
 clear hr2 hc2
 have HB := Aside0.mk (Below.refl w.heap.size w)
 have H : ((foghornref20_All.f k l0 a1 l2).bind fun bt1248 => (if bt1248.2.2 = 0 then (foghornref20_Message.l0 k l0 a1 bt1248.1 bt1248.2.1 0 0) else (some ((⟨#[]⟩ : ByteArray), bt1248.2.2)))) = some (r1, r2) := h
 clear h
 replace H := Option.bind_eq_some_iff.mp H
 obtain ⟨⟨t1248, t1249, t1250⟩, A40, H⟩ := H
 replace H : (if t1250 = 0 then (foghornref20_Message.l0 k l0 a1 t1248 t1249 0 0) else (some ((⟨#[]⟩ : ByteArray), t1250))) = some (r1, r2) := H
 have A4 := Aside0.mk A40
 clear A40
 by_cases c5 : t1250 = 0
 ·rw [if_pos c5] at H
  have c5b0 : (t1250 == 0) = true := beq_iff_eq.mpr c5
  have c5b1 : (t1250 != 0) = false := bne_eq_false_iff_eq.mpr c5
  clear c5
  have H' := Aside0.mk H
  clear H
  go_enter Try.func62, Try.ntmps62
  go_wp2_with (first | (go_at_call 61; (with_reducible refine (foghornref20_All.calls k _ _ l0 a1 _ _ l2 t1248 t1249 t1250 _ ?side1 ?side2 ?side3 ?side4 A4.out).mono ?_); (case side1 => exact HR0.out); (case side2 => exact HC0.out); (case side3 => exact HR2.out); (case side4 => exact HC2.out); rintro e w6 ⟨v1251, v1253, rfl, ho0, ho1, hb⟩; have n0_ := Aside0.mk (Kd.S_lower ho0 (below_size HB.out)); have n1_ := Aside0.mk (Kd.R_lower ho1 (below_size HB.out)); have n2_ := Aside0.mk (below_step HB.out hb); clear HB; have HO1252 := n0_; have HO1254 := n1_; have HB := n2_; clear n0_ n1_ n2_; (try clear hb); (try clear hk); (try clear ho0); (try clear ho1)))
  repeat (go_quiet (first | (go_at_call 61; (with_reducible refine (foghornref20_All.calls k _ _ l0 a1 _ _ l2 t1248 t1249 t1250 _ ?side1 ?side2 ?side3 ?side4 A4.out).mono ?_); (case side1 => repeat (first | exact HR0.out | (with_reducible refine Kd.C_alloc ?_ _) | (with_reducible refine Kd.C_drewN ?_ _) | (with_reducible refine Kd.C_drew ?_))); (case side2 => exact HC0.out); (case side3 => repeat (first | exact HR2.out | (with_reducible refine Kd.C_alloc ?_ _) | (with_reducible refine Kd.C_drewN ?_ _) | (with_reducible refine Kd.C_drew ?_))); (case side4 => exact HC2.out); rintro e w6 ⟨v1251, v1253, rfl, ho0, ho1, hb⟩; have n0_ := Aside0.mk (Kd.S_lower ho0 (below_size (by repeat (first | (with_reducible first | exact HB.out | apply below_alloc | apply pw_below_drewN | apply below_drew1) | exact HB.out)))); have n1_ := Aside0.mk (Kd.R_lower ho1 (below_size (by repeat (first | (with_reducible first | exact HB.out | apply below_alloc | apply pw_below_drewN | apply below_drew1) | exact HB.out)))); have n2_ := Aside0.mk (below_step (by repeat (first | (with_reducible first | exact HB.out | apply below_alloc | apply pw_below_drewN | apply below_drew1) | exact HB.out)) hb); clear HB; have HO1252 := n0_; have HO1254 := n1_; have HB := n2_; clear n0_ n1_ n2_; (try clear hb); (try clear hk); (try clear ho0); (try clear ho1))); try go_wp2_with (first | (go_at_call 61; (with_reducible refine (foghornref20_All.calls k _ _ l0 a1 _ _ l2 t1248 t1249 t1250 _ ?side1 ?side2 ?side3 ?side4 A4.out).mono ?_); (case side1 => repeat (first | exact HR0.out | (with_reducible refine Kd.C_alloc ?_ _) | (with_reducible refine Kd.C_drewN ?_ _) | (with_reducible refine Kd.C_drew ?_))); (case side2 => exact HC0.out); (case side3 => repeat (first | exact HR2.out | (with_reducible refine Kd.C_alloc ?_ _) | (with_reducible refine Kd.C_drewN ?_ _) | (with_reducible refine Kd.C_drew ?_))); (case side4 => exact HC2.out); rintro e w6 ⟨v1251, v1253, rfl, ho0, ho1, hb⟩; have n0_ := Aside0.mk (Kd.S_lower ho0 (below_size (by repeat (first | (with_reducible first | exact HB.out | apply below_alloc | apply pw_below_drewN | apply below_drew1) | exact HB.out)))); have n1_ := Aside0.mk (Kd.R_lower ho1 (below_size (by repeat (first | (with_reducible first | exact HB.out | apply below_alloc | apply pw_below_drewN | apply below_drew1) | exact HB.out)))); have n2_ := Aside0.mk (below_step (by repeat (first | (with_reducible first | exact HB.out | apply below_alloc | apply pw_below_drewN | apply below_drew1) | exact HB.out)) hb); clear HB; have HO1252 := n0_; have HO1254 := n1_; have HB := n2_; clear n0_ n1_ n2_; (try clear hb); (try clear hk); (try clear ho0); (try clear ho1))))
  go_loopg [11, 12] k (fun kq v11 v12 w' => ∃ (x11_1 : Int) (x12_1 : Int), v11 = .int .i64 x11_1 ∧ v12 = .int .i64 x12_1 ∧ Aside0 (foghornref20_Message.l0 kq l0 a1 t1248 t1249 x11_1 x12_1 = some (r1, r2)) ∧ Aside0 (kq ≤ k) ∧ Aside0 (Kd.S k76 76 w' w.heap.size (fun k_ => some k_ ≠ (v1253 : Value).ownBlock) v1251 t1248) ∧ Aside0 (Kd.R (Kd.int .i64) 3 w' w.heap.size (fun _ => True) v1253 t1249) ∧ Aside0 (Below w.heap.size w w'))
  case atStart => exact ⟨(0), (0), (by rfl), (by rfl), H', ⟨Nat.le_refl _⟩, ⟨by (with_reducible repeat (first | apply Kd.S_alloc | apply Kd.S_drewN | apply Kd.S_drew)); exact HO1252.out⟩, ⟨by (with_reducible repeat (first | apply Kd.R_alloc | apply Kd.R_drewN | apply Kd.R_drew)); exact HO1254.out⟩, ⟨HB.out⟩⟩
  case round =>
   clear H'
   try clear c2
   try clear c5
   try clear c5b0
   try clear c5b1
   obtain ⟨x11_1, x12_1, rfl, rfl, HA, HK1, HO_8, HO_9, HB⟩ := hrel
   cases gk with
   | zero => exact absurd HA.out (by simp [foghornref20_Message.l0])
   | succ k1 =>
    have H := HA.out
    clear HA
    simp only [foghornref20_Message.l0] at H
    by_cases c7 : x12_1 < (l0.length : Int)
    ·rw [if_pos c7] at H
     have c7b0 : decide (x12_1 < (l0.length : Int)) = true := decide_eq_true c7
     clear c7
     by_cases c8 : 0 ≤ x12_1
     ·rw [if_pos c8] at H
      have c8b0 : decide (0 ≤ x12_1) = true := decide_eq_true c8
      clear c8
      have H' := Aside0.mk H
      clear H
      have p1255 : 0 ≤ (x12_1 : Int) := of_decide_eq_true (by assumption)
      have q1255 : x12_1 < (l0.length : Int) := of_decide_eq_true (by assumption)
      obtain ⟨ad1255, e1255, hx1255_0⟩ := Kd.at_string HR0.out x12_1 p1255 q1255
      cases e1255
      replace hx1255_0 := (HB.out.cell (World.block_lt_of_cell? w _ hx1255_0)).trans hx1255_0
      replace p1255 := eq_true p1255
      replace q1255 := eq_true q1255
      go_wp2
      repeat (go_quiet (fail); try go_wp2)
      first | go_roundg k1 | (simp only [add_plain] at *; go_roundg k1)
      case measure => have := HK1.out; omega
      case rel => exact ⟨(wrap64 ((wrap64 (x11_1 + ((rdOf ByteArray.empty l0 x12_1).size : Int))) - a1)), (wrap64 (x12_1 + 1)), (by rfl), (by rfl), H', ⟨by have := HK1.out; omega⟩, ⟨by (with_reducible repeat (first | apply Kd.S_alloc | apply Kd.S_drewN | apply Kd.S_drew)); exact HO_8.out⟩, ⟨by (with_reducible repeat (first | apply Kd.R_alloc | apply Kd.R_drewN | apply Kd.R_drew)); exact HO_9.out⟩, ⟨HB.out⟩⟩
     ·rw [if_neg c8] at H
      exact absurd H (by simp)
    ·rw [if_neg c7] at H
     have c7b0 : decide (x12_1 < (l0.length : Int)) = false := decide_eq_false c7
     clear c7
     by_cases c9 : x11_1 > 32768
     ·rw [if_pos c9] at H
      have c9b0 : decide (32768 < x11_1) = true := decide_eq_true c9
      clear c9
      simp only [Option.some.injEq, Prod.mk.injEq] at H
      obtain ⟨rfl, rfl⟩ := H
      go_wp2
      repeat (go_quiet (fail); try go_wp2)
      go_ret2
      exact ⟨by rfl, HB.out⟩
     ·rw [if_neg c9] at H
      have c9b0 : decide (32768 < x11_1) = false := decide_eq_false c9
      clear c9
      by_cases c10 : (t1249.length : Int) > 0
      ·rw [if_pos c10] at H
       have c10b0 : decide (0 < (t1249.length : Int)) = true := decide_eq_true c10
       have c10b1 : decide (0 < t1249.length) = true := decide_eq_true (by omega)
       clear c10
       simp only [Option.some.injEq, Prod.mk.injEq] at H
       obtain ⟨rfl, rfl⟩ := H
       obtain ⟨Ao11, co11, eo11⟩ := Kd.R_slice HO_9.out
       subst eo11
       go_wp2
       repeat (go_quiet (fail); try go_wp2)
       go_ret2
       exact ⟨by rfl, HB.out⟩
      ·rw [if_neg c10] at H
       have c10b0 : decide (0 < (t1249.length : Int)) = false := decide_eq_false c10
       have c10b1 : decide (0 < t1249.length) = false := decide_eq_false (by omega)
       clear c10
       have H' := Aside0.mk H
       clear H
       obtain ⟨Ao12, co12, eo12⟩ := Kd.R_slice HO_9.out
       subst eo12
       go_wp2
       repeat (go_quiet (fail); try go_wp2)
       go_loopg [13, 14] k1 (fun kq v13 v14 w' => ∃ (x13_2 : ByteArray) (x14_2 : Int), v13 = .string x13_2 ∧ v14 = .int .i64 x14_2 ∧ Aside0 (foghornref20_Message.l1 kq a1 t1248 x13_2 x14_2 = some (r1, r2)) ∧ Aside0 (kq ≤ k1) ∧ Aside0 (Kd.S k76 76 w' w.heap.size (fun _ => True) v1251 t1248) ∧ Aside0 (Below w.heap.size w w'))
       case atStart => exact ⟨((⟨#[]⟩ : ByteArray)), (0), (by rfl), (by rfl), H', ⟨Nat.le_refl _⟩, ⟨by (with_reducible repeat (first | apply Kd.S_alloc | apply Kd.S_drewN | apply Kd.S_drew)); exact Kd.S_mono HO_8.out (fun _ hk => trivial)⟩, ⟨HB.out⟩⟩
       case round =>
        clear H'
        try clear c2
        try clear c5
        try clear c5b0
        try clear c5b1
        try clear c7
        try clear c7b0
        try clear c8
        try clear c8b0
        try clear c9
        try clear c9b0
        try clear c10
        try clear c10b0
        try clear c10b1
        try clear hx1255_0
        try clear p1255
        try clear q1255
        obtain ⟨x13_2, x14_2, rfl, rfl, HA, HK2, HO_8, HB⟩ := hrel
        cases gk with
        | zero => exact absurd HA.out (by simp [foghornref20_Message.l1])
        | succ k2 =>
         have H := HA.out
         clear HA
         simp only [foghornref20_Message.l1] at H
         by_cases c13 : x14_2 < (t1248.length : Int)
         ·rw [if_pos c13] at H
          have c13b0 : decide (x14_2 < (t1248.length : Int)) = true := decide_eq_true c13
          clear c13
          by_cases c14 : 0 ≤ x14_2
          ·rw [if_pos c14] at H
           have c14b0 : decide (0 ≤ x14_2) = true := decide_eq_true c14
           clear c14
           obtain ⟨ji15, hji15⟩ : ∃ j_ : Int, (wrap64 ((((rd_T76 t1248 x14_2).f0).size : Int) - a1)) = j_ := ⟨_, rfl⟩
           replace H : (if 0 ≤ (ji15) then (if (ji15) ≤ (((rd_T76 t1248 x14_2).f0).size : Int) then (if x13_2.size + (((rd_T76 t1248 x14_2).f0).extract 0 ((ji15) : Int).toNat).size ≤ 9223372036854775807 then (foghornref20_Message.l1 k2 a1 t1248 (x13_2 ++ (((rd_T76 t1248 x14_2).f0).extract 0 ((ji15) : Int).toNat)) (wrap64 (x14_2 + 1))) else (none)) else (none)) else (none)) = some (r1, r2) := by first | (rw [hji15] at H; exact H) | (simp only [hji15] at H ⊢; exact H)
           have hji15w : (IntKind.i64.wrap ((((rd_T76 t1248 x14_2).f0).size : Int) - a1)) = ji15 := (i64_w _).trans hji15
           by_cases c16 : 0 ≤ (ji15)
           ·rw [if_pos c16] at H
            have c16b0 := eq_true c16
            have c16b1 : decide (0 ≤ (ji15)) = true := decide_eq_true c16
            clear c16
            by_cases c17 : (ji15) ≤ (((rd_T76 t1248 x14_2).f0).size : Int)
            ·rw [if_pos c17] at H
             have c17b0 := eq_true c17
             have c17b1 : decide ((ji15) ≤ (((rd_T76 t1248 x14_2).f0).size : Int)) = true := decide_eq_true c17
             clear c17
             by_cases c18 : x13_2.size + (((rd_T76 t1248 x14_2).f0).extract 0 ((ji15) : Int).toNat).size ≤ 9223372036854775807
             ·rw [if_pos c18] at H
              have c18b0 := eq_true c18
              have c18b1 : decide (x13_2.size + (((rd_T76 t1248 x14_2).f0).extract 0 ((ji15) : Int).toNat).size ≤ 9223372036854775807) = true := decide_eq_true c18
              try have c18b2 : (9223372036854775807 < x13_2.size + (((rd_T76 t1248 x14_2).f0).extract 0 ((ji15) : Int).toNat).size) = False := eq_false (Nat.not_lt.2 c18)
              have H' := Aside0.mk H
              clear H
              obtain ⟨Ao19, co19, eo19⟩ := Kd.S_slice HO_8.out
              subst eo19
              have p1256 : 0 ≤ (x14_2 : Int) := of_decide_eq_true (by assumption)
              have q1256 : x14_2 < (t1248.length : Int) := of_decide_eq_true (by assumption)
              obtain ⟨ad1256, A1256_1, c1256_1, A1256_2, c1256_2, e1256, hx1256_0, hx1256_1, hx1256_2, hl1256_1, hi1256_1, hl1256_2, hi1256_2⟩ := at_T76 (Kd.S_reads' HO_8.out).2.2 x14_2 p1256 q1256
              cases e1256
              obtain ⟨ce1256, hce1256, hMe1256, hcc1256⟩ := Kd.S_get HO_8.out z76 x14_2 p1256 (by first | exact q1256 | exact of_decide_eq_true (by assumption) | (have e_ := (Kd.S_reads' HO_8.out).1; omega))
              obtain ⟨ve1256_1, ve1256_2, rfl, ge1256_1, ge1256_2⟩ := k76_openM hMe1256
              have hv1256_1 := hcc1256 1 _ rfl
              rw [add_field _ _ 1 (by omega)] at hv1256_1
              replace hv1256_1 := Option.some.inj (hv1256_1.symm.trans hx1256_1)
              rw [hv1256_1] at ge1256_1
              have HL1256_1 := Aside0.mk (show Kd.R (Kd.int .i64) 3 _ _ _ _ ((rd_T76 t1248 x14_2).f1) from ge1256_1)
              clear hv1256_1 ge1256_1
              have hv1256_2 := hcc1256 2 _ rfl
              rw [add_field _ _ 2 (by omega)] at hv1256_2
              replace hv1256_2 := Option.some.inj (hv1256_2.symm.trans hx1256_2)
              rw [hv1256_2] at ge1256_2
              have HL1256_2 := Aside0.mk (show Kd.R (Kd.int .i64) 3 _ _ _ _ ((rd_T76 t1248 x14_2).f2) from ge1256_2)
              clear hv1256_2 ge1256_2
              clear hcc1256 hce1256
              have HR1256_1 := Aside0.mk hi1256_1
              have HC1256_1 := Aside0.mk hl1256_1
              clear hi1256_1 hl1256_1
              have HR1256_2 := Aside0.mk hi1256_2
              have HC1256_2 := Aside0.mk hl1256_2
              clear hi1256_2 hl1256_2
              replace p1256 := eq_true p1256
              replace q1256 := eq_true q1256
              have p1257 : 0 ≤ (x14_2 : Int) := of_decide_eq_true (by assumption)
              have q1257 : x14_2 < (t1248.length : Int) := of_decide_eq_true (by assumption)
              obtain ⟨ad1257, A1257_1, c1257_1, A1257_2, c1257_2, e1257, hx1257_0, hx1257_1, hx1257_2, hl1257_1, hi1257_1, hl1257_2, hi1257_2⟩ := at_T76 (Kd.S_reads' HO_8.out).2.2 x14_2 p1257 q1257
              obtain rfl : ad1256 = ad1257 := (by injection e1257)
              obtain ⟨ce1257, hce1257, hMe1257, hcc1257⟩ := Kd.S_get HO_8.out z76 x14_2 p1257 (by first | exact q1257 | exact of_decide_eq_true (by assumption) | (have e_ := (Kd.S_reads' HO_8.out).1; omega))
              obtain ⟨ve1257_1, ve1257_2, rfl, ge1257_1, ge1257_2⟩ := k76_openM hMe1257
              have hv1257_1 := hcc1257 1 _ rfl
              rw [add_field _ _ 1 (by omega)] at hv1257_1
              replace hv1257_1 := Option.some.inj (hv1257_1.symm.trans hx1257_1)
              rw [hv1257_1] at ge1257_1
              have HL1257_1 := Aside0.mk (show Kd.R (Kd.int .i64) 3 _ _ _ _ ((rd_T76 t1248 x14_2).f1) from ge1257_1)
              clear hv1257_1 ge1257_1
              have hv1257_2 := hcc1257 2 _ rfl
              rw [add_field _ _ 2 (by omega)] at hv1257_2
              replace hv1257_2 := Option.some.inj (hv1257_2.symm.trans hx1257_2)
              rw [hv1257_2] at ge1257_2
              have HL1257_2 := Aside0.mk (show Kd.R (Kd.int .i64) 3 _ _ _ _ ((rd_T76 t1248 x14_2).f2) from ge1257_2)
              clear hv1257_2 ge1257_2
              clear hcc1257 hce1257
              have HR1257_1 := Aside0.mk hi1257_1
              have HC1257_1 := Aside0.mk hl1257_1
              clear hi1257_1 hl1257_1
              have HR1257_2 := Aside0.mk hi1257_2
              have HC1257_2 := Aside0.mk hl1257_2
              clear hi1257_2 hl1257_2
              replace p1257 := eq_true p1257
              replace q1257 := eq_true q1257
              have ea_ := Option.some.inj (hx1256_1.symm.trans hx1257_1)
              injection ea_ with ea_ en_ ec_
              subst ea_
              subst ec_
              clear en_
              have ea_ := Option.some.inj (hx1256_2.symm.trans hx1257_2)
              injection ea_ with ea_ en_ ec_
              subst ea_
              subst ec_
              clear en_
              go_wp2
              repeat (go_quiet (fail); try go_wp2)
              first | go_roundg k2 | (simp only [add_plain] at *; go_roundg k2)
              case measure => have := HK1.out; have := HK2.out; omega
              case rel => exact ⟨(x13_2 ++ (((rd_T76 t1248 x14_2).f0).extract 0 ((ji15) : Int).toNat)), (wrap64 (x14_2 + 1)), (by first | rfl | (simp; done) | (simp only [← hji15] <;> (first | rfl | simp)) | (simp [*]; done)), (by rfl), H', ⟨by have := HK1.out; have := HK2.out; omega⟩, ⟨by (with_reducible repeat (first | apply Kd.S_alloc | apply Kd.S_drewN | apply Kd.S_drew)); exact HO_8.out⟩, ⟨by repeat (first | (with_reducible first | exact HB.out | apply below_alloc | apply pw_below_drewN | apply below_drew1) | exact HB.out)⟩⟩
             ·rw [if_neg c18] at H
              exact absurd H (by simp)
            ·rw [if_neg c17] at H
             exact absurd H (by simp)
           ·rw [if_neg c16] at H
            exact absurd H (by simp)
          ·rw [if_neg c14] at H
           exact absurd H (by simp)
         ·rw [if_neg c13] at H
          have c13b0 : decide (x14_2 < (t1248.length : Int)) = false := decide_eq_false c13
          clear c13
          simp only [Option.some.injEq, Prod.mk.injEq] at H
          obtain ⟨rfl, rfl⟩ := H
          obtain ⟨Ao20, co20, eo20⟩ := Kd.S_slice HO_8.out
          subst eo20
          go_wp2
          repeat (go_quiet (fail); try go_wp2)
          go_ret2
          exact ⟨by rfl, HB.out⟩
 ·rw [if_neg c5] at H
  have c5b0 : (t1250 == 0) = false := beq_eq_false_iff_ne.mpr c5
  have c5b1 : (t1250 != 0) = true := bne_iff_ne.mpr c5
  simp only [Option.some.injEq, Prod.mk.injEq] at H
  obtain ⟨rfl, rfl⟩ := H
  go_enter Try.func62, Try.ntmps62
  go_wp2_with (first | (go_at_call 61; (with_reducible refine (foghornref20_All.calls k _ _ l0 a1 _ _ l2 t1248 t1249 t1250 _ ?side1 ?side2 ?side3 ?side4 A4.out).mono ?_); (case side1 => exact HR0.out); (case side2 => exact HC0.out); (case side3 => exact HR2.out); (case side4 => exact HC2.out); rintro e w21 ⟨v1251, v1253, rfl, ho0, ho1, hb⟩; have n0_ := Aside0.mk (Kd.S_lower ho0 (below_size HB.out)); have n1_ := Aside0.mk (Kd.R_lower ho1 (below_size HB.out)); have n2_ := Aside0.mk (below_step HB.out hb); clear HB; have HO1252 := n0_; have HO1254 := n1_; have HB := n2_; clear n0_ n1_ n2_; (try clear hb); (try clear hk); (try clear ho0); (try clear ho1)))
  repeat (go_quiet (first | (go_at_call 61; (with_reducible refine (foghornref20_All.calls k _ _ l0 a1 _ _ l2 t1248 t1249 t1250 _ ?side1 ?side2 ?side3 ?side4 A4.out).mono ?_); (case side1 => repeat (first | exact HR0.out | (with_reducible refine Kd.C_alloc ?_ _) | (with_reducible refine Kd.C_drewN ?_ _) | (with_reducible refine Kd.C_drew ?_))); (case side2 => exact HC0.out); (case side3 => repeat (first | exact HR2.out | (with_reducible refine Kd.C_alloc ?_ _) | (with_reducible refine Kd.C_drewN ?_ _) | (with_reducible refine Kd.C_drew ?_))); (case side4 => exact HC2.out); rintro e w21 ⟨v1251, v1253, rfl, ho0, ho1, hb⟩; have n0_ := Aside0.mk (Kd.S_lower ho0 (below_size (by repeat (first | (with_reducible first | exact HB.out | apply below_alloc | apply pw_below_drewN | apply below_drew1) | exact HB.out)))); have n1_ := Aside0.mk (Kd.R_lower ho1 (below_size (by repeat (first | (with_reducible first | exact HB.out | apply below_alloc | apply pw_below_drewN | apply below_drew1) | exact HB.out)))); have n2_ := Aside0.mk (below_step (by repeat (first | (with_reducible first | exact HB.out | apply below_alloc | apply pw_below_drewN | apply below_drew1) | exact HB.out)) hb); clear HB; have HO1252 := n0_; have HO1254 := n1_; have HB := n2_; clear n0_ n1_ n2_; (try clear hb); (try clear hk); (try clear ho0); (try clear ho1))); try go_wp2_with (first | (go_at_call 61; (with_reducible refine (foghornref20_All.calls k _ _ l0 a1 _ _ l2 t1248 t1249 t1250 _ ?side1 ?side2 ?side3 ?side4 A4.out).mono ?_); (case side1 => repeat (first | exact HR0.out | (with_reducible refine Kd.C_alloc ?_ _) | (with_reducible refine Kd.C_drewN ?_ _) | (with_reducible refine Kd.C_drew ?_))); (case side2 => exact HC0.out); (case side3 => repeat (first | exact HR2.out | (with_reducible refine Kd.C_alloc ?_ _) | (with_reducible refine Kd.C_drewN ?_ _) | (with_reducible refine Kd.C_drew ?_))); (case side4 => exact HC2.out); rintro e w21 ⟨v1251, v1253, rfl, ho0, ho1, hb⟩; have n0_ := Aside0.mk (Kd.S_lower ho0 (below_size (by repeat (first | (with_reducible first | exact HB.out | apply below_alloc | apply pw_below_drewN | apply below_drew1) | exact HB.out)))); have n1_ := Aside0.mk (Kd.R_lower ho1 (below_size (by repeat (first | (with_reducible first | exact HB.out | apply below_alloc | apply pw_below_drewN | apply below_drew1) | exact HB.out)))); have n2_ := Aside0.mk (below_step (by repeat (first | (with_reducible first | exact HB.out | apply below_alloc | apply pw_below_drewN | apply below_drew1) | exact HB.out)) hb); clear HB; have HO1252 := n0_; have HO1254 := n1_; have HB := n2_; clear n0_ n1_ n2_; (try clear hb); (try clear hk); (try clear ho0); (try clear ho1))))
  go_ret2
  exact ⟨by rfl, HB.out⟩
--WALK
def mmB_ren : Go.Shelf.Ren := ⟨fun x => if x = 166 then 75 else if x = 240 then 101 else if x = 276 then 113 else if x = 169 then 76 else x, fun x => if x = 0 then 0 else if x = 3 then 3 else if x = 4 then 4 else if x = 5 then 5 else if x = 9 then 9 else if x = 20 then 20 else if x = 37 then 29 else if x = 70 then 95 else if x = 72 then 97 else if x = 75 then 99 else if x = 80 then 102 else if x = 127 then 129 else if x = 164 then 144 else x, fun x => x⟩
set_option maxRecDepth 100000 in
theorem mmB_l166 : Go.Proofs.Lays.n166 Try.prog mmB_ren where
 mixed := by kernel_rfl
 f166 := by kernel_rfl
 f240 := by kernel_rfl
 f276 := by kernel_rfl
 t0 := by kernel_rfl
 a0 := fun w => by kernel_rfl
 z0 := fun w => by kernel_rfl
 v0 := fun w => by kernel_rfl
 t3 := by kernel_rfl
 a3 := fun w => by kernel_rfl
 z3 := fun w => by kernel_rfl
 v3 := fun w => by kernel_rfl
 t4 := by kernel_rfl
 a4 := fun w => by kernel_rfl
 z4 := fun w => by kernel_rfl
 v4 := fun w => by kernel_rfl
 t9 := by kernel_rfl
 a9 := fun w => by kernel_rfl
 z9 := fun w => by kernel_rfl
 v9 := fun w => by kernel_rfl
 t20 := by kernel_rfl
 a20 := fun w => by kernel_rfl
 z20 := fun w => by kernel_rfl
 v20 := fun w => by kernel_rfl
 t37 := by kernel_rfl
 a37 := fun w => by kernel_rfl
 z37 := fun w => by kernel_rfl
 v37 := fun w => by kernel_rfl
 t70 := by kernel_rfl
 a70 := fun w => by kernel_rfl
 z70 := fun w => by kernel_rfl
 v70 := fun w => by kernel_rfl
 t72 := by kernel_rfl
 a72 := fun w => by kernel_rfl
 z72 := fun w => by kernel_rfl
 v72 := fun w => by kernel_rfl
 t75 := by kernel_rfl
 a75 := fun w => by kernel_rfl
 z75 := fun w => by kernel_rfl
 v75 := fun w => by kernel_rfl
 t164 := by kernel_rfl
 a164 := fun w => by kernel_rfl
 z164 := fun w => by kernel_rfl
 v164 := fun w => by kernel_rfl
set_option maxRecDepth 100000 in
theorem mmB_l169 : Go.Proofs.Lays.n169 Try.prog mmB_ren where
 mixed := by kernel_rfl
 f169 := by kernel_rfl
 t0 := by kernel_rfl
 a0 := fun w => by kernel_rfl
 z0 := fun w => by kernel_rfl
 v0 := fun w => by kernel_rfl
 t3 := by kernel_rfl
 a3 := fun w => by kernel_rfl
 z3 := fun w => by kernel_rfl
 v3 := fun w => by kernel_rfl
 t9 := by kernel_rfl
 a9 := fun w => by kernel_rfl
 z9 := fun w => by kernel_rfl
 v9 := fun w => by kernel_rfl
 t37 := by kernel_rfl
 a37 := fun w => by kernel_rfl
 z37 := fun w => by kernel_rfl
 v37 := fun w => by kernel_rfl
 t70 := by kernel_rfl
 a70 := fun w => by kernel_rfl
 z70 := fun w => by kernel_rfl
 v70 := fun w => by kernel_rfl
 t72 := by kernel_rfl
 a72 := fun w => by kernel_rfl
 z72 := fun w => by kernel_rfl
 v72 := fun w => by kernel_rfl
 t127 := by kernel_rfl
 a127 := fun w => by kernel_rfl
 z127 := fun w => by kernel_rfl
 v127 := fun w => by kernel_rfl
set_option maxRecDepth 100000 in
theorem mmB_ex : Go.Proofs.Builder.Extra Try.prog mmB_ren where
 sizeBuilder := by kernel_rfl
 liesBuilder := by kernel_rfl
 t5 := by kernel_rfl
 a5 := fun w => by kernel_rfl
 z5 := fun w => by kernel_rfl
 v5 := fun w => by kernel_rfl
 infoByte := by kernel_rfl
 cellsByte := by kernel_rfl
 sizeByte := by kernel_rfl
 neB5 := by decide
theorem mmB_write (B b : Nat) (bs : List Value) (s : ByteArray) (w : World) (h : Lib.IsBuilder 97 5 B b bs w) (hlen : bs.length + s.size ≤ 140737488355328) (hBw : B ≤ w.heap.size) :
  Calls Try.prog 75 #[.pointer (some ⟨b, 0, none⟩), .string s] w fun e w' => e = .returned (.tuple #[.int .i64 s.size, .nilIface]) ∧ (Lib.BuilderAt 97 5 B b (.pointer (some ⟨b, 0, none⟩)) (bs ++ Lib.strCells s) w' ∧ Below B w w') :=
 Go.Proofs.Any.Builder_WriteString mmB_l166 mmB_ex B b bs s w h hlen hBw
theorem mmB_string (B b : Nat) (l : List UInt8) (w : World) (h : Lib.IsBuilder 97 5 B b (Lib.byteCells l) w) (hBw : B ≤ w.heap.size) :
  Calls Try.prog 76 #[.pointer (some ⟨b, 0, none⟩)] w fun e w' => e = .returned (.string ⟨l.toArray⟩) ∧ Below B w w' :=
 Go.Proofs.Any.Builder_String_any mmB_l169 mmB_ex B b l w h hBw
theorem mmB_isB_below {T e B b : Nat} {bs : List Value} {w w1 : World} (h : Lib.IsBuilder T e B b bs w) (hb : Below w.heap.size w w1) : Lib.IsBuilder T e B b bs w1 := by
 have key : ∀ p, Lib.BuilderAt T e B b p bs w → Lib.BuilderAt T e B b p bs w1 := fun p hp => by
  have hlt := hp.lt
  obtain ⟨hB, v, hh, hown, hne⟩ := hp
  refine ⟨hB, v, (hb.block b hlt).trans hh, ?_, hne⟩
  exact pw_own_below hown hb
 exact h.elim (fun p => .inl (key _ p)) (fun p => .inr (key _ p))
theorem mmB_strCells_eq (d : ByteArray) : Lib.strCells d = Lib.byteCells d.data.toList := rfl
theorem mmB_bld_new {w : World} {gb : Nat} (h : w.heap[gb]? = some (.cells #[.pointer none, .slice none 0 0] 97 (0, 0))) : Lib.IsBuilder 97 5 gb gb [] w :=
 .inl ⟨Nat.le_refl _, .slice none 0 0, h, ⟨rfl, .inl ⟨rfl, rfl⟩⟩, by simp [Value.ownBlock]⟩
set_option maxHeartbeats 8000000 in
set_option maxRecDepth 100000 in
theorem mm_go (k : Nat) (A0 : Option Addr) (c0 : Nat) (l0 : List ByteArray) (a1 : Int) (A2 : Option Addr) (c2 : Nat) (l2 : List (List Int)) (q1 : List S64) (q2 : List Int) (q3 : Int) (r1 : ByteArray) (r2 : Int) (w : World) (hr0 : Kd.C Kd.string w A0 l0.length l0) (hc0 : l0.length ≤ c0) (hr2 : Kd.C (Kd.slice 3 (Kd.int .i64)) w A2 l2.length l2) (hc2 : l2.length ≤ c2)
  (hlen : l0.length ≤ 140737488355328) (hall : mend_All.f k l0 a1 l2 = some (q1, q2, q3)) (hend : mm_end a1 l0 (q1, q2, q3) = some (r1, r2)) :
  Calls Try.prog 63 #[.slice A0 l0.length c0, .int .i64 a1, .slice A2 l2.length c2] w fun e w' => e = .returned (.tuple #[.string r1, .int .i64 r2]) ∧ Below w.heap.size w w' := by
 have HR0 := Aside0.mk hr0
 have HC0 := Aside0.mk hc0
 have HR2 := Aside0.mk hr2
 have HC2 := Aside0.mk hc2
 have HLEN := Aside0.mk hlen
 have HAL := Aside0.mk hall
 have HEN := Aside0.mk hend
 have hu64 := Try.underlying64
 clear hr0 hc0 hr2 hc2 hlen hall hend
 go_enter Try.func63, Try.ntmps63
 by_cases h0 : q3 = 0
 ·have hb0 : (q3 != 0) = false := bne_eq_false_iff_eq.2 h0
  have hen := HEN.out
  unfold mm_end at hen
  rw [if_pos (show (q1, q2, q3).2.2 = 0 from h0)] at hen
  have HEN2 := Aside0.mk hen
  clear hen HEN h0
  go_upto_region 5 with (first
   | (go_at_call 54; (with_reducible refine (mend_All.calls k _ _ l0 a1 _ _ l2 q1 q2 q3 _ HR0.out HC0.out HR2.out HC2.out HAL.out).mono ?_); rintro e w1 ⟨v0, v1, rfl, hO, hR, hb⟩; have HO := Aside0.mk (Kd.S_reads hO); have HR := Aside0.mk (Kd.R_reads hR); have HB := Aside0.mk hb; clear hO hR hb; obtain ⟨Ar, cr, rfl, hcr, hCr⟩ := HR.out; obtain ⟨Ao, co, rfl, hco, hCo⟩ := HO.out; have HCO := Aside0.mk hCo; have HLO := Aside0.mk hco; clear HO HR hcr hCr hCo hco))
  obtain ⟨Z, hZ⟩ : ∃ Z, Z = mm_size a1 l0 0 := ⟨_, rfl⟩
  rw [← hZ] at HEN2
  have HZ := Aside0.mk hZ.symm
  clear hZ
  go_wp2
  go_loopg [11, 30] (l0.length + 1) (fun kq v11 v30 w' => ∃ (i : Nat) (z : Int), v11 = .int .i64 z ∧ v30 = .int .i64 (i : Int) ∧ Aside0 (i + kq = l0.length + 1) ∧ Aside0 (i ≤ l0.length) ∧ Aside0 (mm_size a1 (l0.drop i) z = Z) ∧ Aside0 (Below w1.heap.size w1 w'))
  case atStart => exact ⟨0, 0, rfl, rfl, ⟨by omega⟩, ⟨Nat.zero_le _⟩, HZ, ⟨Below.refl _ _⟩⟩
  case round =>
   clear HZ
   obtain ⟨i, z, rfl, rfl, HI, HIL, HZ, HBW⟩ := hrel
   cases gk with
   | zero => have := HI.out; have := HIL.out; omega
   | succ k1 =>
   by_cases hi : i < l0.length
   ·have hlt : decide (i < l0.length) = true := decide_eq_true hi
    have hlt' : decide ((i : Int) < (l0.length : Int)) = true := decide_eq_true (by omega)
    obtain ⟨ad0, e0, hc0⟩ := Kd.at_string HR0.out (i : Int) (by omega) (by omega)
    subst e0
    have hs : rdOf ByteArray.empty l0 (i : Int) = l0[i] := by unfold rdOf; rw [Int.toNat_natCast, List.getD_eq_getElem?_getD, List.getElem?_eq_getElem hi]; rfl
    rw [hs, Int.toNat_natCast] at hc0
    obtain ⟨s, hsx⟩ : ∃ s, s = l0[i] := ⟨_, rfl⟩
    rw [← hsx] at hc0
    have hz := HZ.out
    rw [List.drop_eq_getElem_cons hi, ← hsx, mm_size] at hz
    have HZ2 := Aside0.mk hz
    have HILT := Aside0.mk hi
    have hx0 : wr.cell? (ad0.add i) = some (.string s) := ((below_step HB.out HBW.out).cell (World.block_lt_of_cell? w _ hc0)).trans hc0
    have hp0 : (0 ≤ (i : Int)) = True := eq_true (by omega)
    have hp1 : ((i : Int) < (l0.length : Int)) = True := eq_true (by omega)
    have hp3 : (i < l0.length) = True := eq_true hi
    clear hs hc0 hz hsx hi HZ
    go_wp2
    go_roundg k1
    case measure => omega
    case rel =>
     have hw : wrap64 ((i : Int) + 1) = ((i + 1 : Nat) : Int) := by have := HLEN.out; have := HILT.out; unfold wrap64; omega
     exact ⟨i + 1, _, rfl, (by first | rfl | exact congrArg (fun y => Value.int .i64 y) hw), ⟨by have := HI.out; omega⟩, ⟨HILT.out⟩, HZ2, HBW⟩
   ·have hlt : decide (i < l0.length) = false := decide_eq_false hi
    have hlt' : decide ((i : Int) < (l0.length : Int)) = false := decide_eq_false (by omega)
    have hz := HZ.out
    rw [List.drop_eq_nil_of_le (by omega), mm_size] at hz
    subst hz
    clear hi
    by_cases h1 : z > 32768
    ·have ht1 : decide (z > 32768) = true := decide_eq_true h1
     have ht2 : decide (32768 < z) = true := decide_eq_true h1
     have hen := HEN2.out
     rw [if_pos h1] at hen
     simp only [Option.some.injEq, Prod.mk.injEq] at hen
     obtain ⟨rfl, rfl⟩ := hen
     clear h1
     go_wp2
     go_ret2
     exact ⟨(by first | rfl | (simp [go_sem]; done)), below_step HB.out HBW.out⟩
    ·have ht1 : decide (z > 32768) = false := decide_eq_false h1
     have ht2 : decide (32768 < z) = false := decide_eq_false h1
     have hen := HEN2.out
     rw [if_neg h1] at hen
     clear h1 HEN2
     by_cases h2 : 0 < q2.length
     ·have ht3 : decide ((q2.length : Int) > 0) = true := decide_eq_true (by omega)
      have ht4 : decide (0 < q2.length) = true := decide_eq_true h2
      have ht5 : decide (0 < (q2.length : Int)) = true := decide_eq_true (by omega)
      rw [if_pos (show 0 < (q1, q2, q3).2.1.length from h2)] at hen
      simp only [Option.some.injEq, Prod.mk.injEq] at hen
      obtain ⟨rfl, rfl⟩ := hen
      clear h2
      go_wp2
      go_ret2
      exact ⟨(by first | rfl | (simp [go_sem]; done)), below_step HB.out HBW.out⟩
     ·have ht3 : decide ((q2.length : Int) > 0) = false := decide_eq_false (by omega)
      have ht4 : decide (0 < q2.length) = false := decide_eq_false h2
      have ht5 : decide (0 < (q2.length : Int)) = false := decide_eq_false (by omega)
      rw [if_neg (show ¬ 0 < (q1, q2, q3).2.1.length from h2)] at hen
      split at hen
      ·rename_i hq
       have HQL := Aside0.mk (show q1.length ≤ 1000000 from hq)
       obtain ⟨bs, hbs, hen⟩ := Option.map_eq_some_iff.1 hen
       simp only [Prod.mk.injEq] at hen
       obtain ⟨rfl, rfl⟩ := hen
       have HBS := Aside0.mk (show mm_text a1 q1 [] = some bs from hbs)
       clear hq hbs h2
       go_wp2_with (first
        | ((with_reducible refine gate_dst (N := 14) rfl ?_); refine box_event ?hg (N := 14) ?hd (cs := #[.pointer none, .slice none 0 0]) (t := 97) ?hr ?_; (case hd => rfl); (case hg => rfl); (case hr => first | (go_simp; done) | (go_simp; rfl)); intro gb hgb w2 hbox hb; have GB := Aside0.mk (show w1.heap.size ≤ gb from by rw [hgb]; exact HBW.out.size); have HBD := Aside0.mk (mmB_bld_new hbox); have HGL := Aside0.mk (Nat.le_of_lt (blk_lt hbox)); have HB2 := Aside0.mk (below_step HBW.out hb); clear hgb hbox hb))
       clear HBW
       go_loopg [50] (q1.length + 1) (fun kq v50 w' => ∃ (i : Nat) (b : List UInt8), v50 = .int .i64 (i : Int) ∧ Aside0 (i + kq = q1.length + 1) ∧ Aside0 (i ≤ q1.length) ∧ Aside0 (mm_text a1 (q1.drop i) b = some bs) ∧ Aside0 (Lib.IsBuilder 97 5 gb gb (Lib.byteCells b) w') ∧ Aside0 (gb ≤ w'.heap.size) ∧ Aside0 (Below w1.heap.size w1 w'))
       case atStart => exact ⟨0, [], rfl, ⟨by omega⟩, ⟨Nat.zero_le _⟩, HBS, HBD, HGL, HB2⟩
       case round =>
        clear HBS HBD HGL HB2
        obtain ⟨i, b, rfl, HI, HIL, HBS, HBD, HGL, HBW⟩ := hrel
        cases gk with
        | zero => have := HI.out; have := HIL.out; omega
        | succ k2 =>
        by_cases hi : i < q1.length
        ·have hlt : decide (i < q1.length) = true := decide_eq_true hi
         have hlt' : decide ((i : Int) < (q1.length : Int)) = true := decide_eq_true (by omega)
         have HCr := Aside0.mk (Kd.C_below HCO.out HBW.out)
         obtain ⟨m, hmx⟩ : ∃ m, m = q1[i] := ⟨_, rfl⟩
         have hm : rd_T64 q1 (i : Int) = m := by unfold rd_T64; rw [Int.toNat_natCast, List.getD_eq_getElem?_getD, List.getElem?_eq_getElem hi, hmx]; rfl
         obtain ⟨ad, B1, d1, B2, d2, eA, hx0, hx1, hx2, hl1, hi1, hl2, hi2⟩ := at_T64 HCr.out (i : Int) (by omega) (by omega)
         rw [hm, Int.toNat_natCast] at hx0 hx1 hx2
         subst eA
         have hb := HBS.out
         rw [List.drop_eq_getElem_cons hi, ← hmx, mm_text] at hb
         obtain ⟨n, hnx⟩ : ∃ n, n = wrap64 ((m.f0.size : Int) - a1) := ⟨_, rfl⟩
         rw [← hnx] at hb
         split at hb
         ·rename_i hc
          have HBT := Aside0.mk hb
          have HN := Aside0.mk hnx
          have HC := Aside0.mk hc
          have HILT := Aside0.mk hi
          have hp0 : (0 ≤ (i : Int)) = True := eq_true (by omega)
          have hp1 : ((i : Int) < (q1.length : Int)) = True := eq_true (by omega)
          have hp3 : (i < q1.length) = True := eq_true hi
          have hw1 : wrap64 ((m.f0.size : Int) - a1) = n := hnx.symm
          have hv1 : IntKind.i64.wrap ((m.f0.size : Int) - a1) = n := by rw [i64_w]; exact hnx.symm
          have hn0 : (0 ≤ n) = True := eq_true hc.1
          have hn1 : (n ≤ (m.f0.size : Int)) = True := eq_true hc.2.1
          have hn2 : decide (0 ≤ n) = true := decide_eq_true hc.1
          have hn3 : decide (n ≤ (m.f0.size : Int)) = true := decide_eq_true hc.2.1
          clear hb hc hnx hmx hm hi hl1 hi1 hl2 hi2 HBS
          go_wp2_with (first
           | ((with_reducible refine gate_dst (N := 16) rfl ?_); refine box_event ?hg (N := 16) ?hd (cs := #[.string (⟨#[]⟩ : ByteArray), .slice none 0 0, .slice none 0 0]) (t := 64) ?hr ?_; (case hd => rfl); (case hg => rfl); (case hr => first | (go_simp; done) | (go_simp; rfl)); intro g16 hg16 w3 hbox hb; have BK := Aside0.mk hbox; have G16 := Aside0.mk hg16; have HB3 := Aside0.mk hb; clear hbox hg16 hb; have hcz0 : w3.cell? ⟨g16, 0, none⟩ = some (.string (⟨#[]⟩ : ByteArray)) := (blk_cell BK.out 0).trans rfl; have hcz1 : w3.cell? ⟨g16, 1, none⟩ = some (.slice none 0 0) := (blk_cell BK.out 1).trans rfl; have hcz2 : w3.cell? ⟨g16, 2, none⟩ = some (.slice none 0 0) := (blk_cell BK.out 2).trans rfl; have hfz0 := blk_frozen BK.out 0; have hfz1 := blk_frozen BK.out 1; have hfz2 := blk_frozen BK.out 2)
           | (go_at_call 75; have hb13 : Below wr.heap.size wr (((w3.setCell ⟨g16, 0, none⟩ (.string m.f0)).setCell ⟨g16, 1, none⟩ (.slice B1 m.f1.length d1)).setCell ⟨g16, 2, none⟩ (.slice B2 m.f2.length d2)) := below_set (below_set (below_set HB3.out (Nat.le_of_eq G16.out.symm)) (Nat.le_of_eq G16.out.symm)) (Nat.le_of_eq G16.out.symm); have HB13 := Aside0.mk hb13; clear hb13; (with_reducible refine (mmB_write gb gb (Lib.byteCells b) (m.f0.extract 0 n.toNat) _ (mmB_isB_below HBD.out HB13.out) (by have := HC.out.2.2; unfold Lib.byteCells; rw [List.length_map]; exact this) (Nat.le_trans HGL.out HB13.out.size)).mono ?_); rintro e w4 ⟨rfl, hba, hb⟩; have HBA := Aside0.mk hba; have HB4 := Aside0.mk ((below_step HBW.out HB13.out).trans (hb.mono GB.out)); have HGL4 := Aside0.mk (Nat.le_trans (Nat.le_trans HGL.out HB13.out.size) hb.size); clear hba hb))
          go_roundg k2
          case measure => omega
          case rel =>
           have hw : wrap64 ((i : Int) + 1) = ((i + 1 : Nat) : Int) := by have := HILT.out; have := HQL.out; unfold wrap64; omega
           have e1 : Lib.byteCells (b ++ (m.f0.extract 0 n.toNat).data.toList) = Lib.byteCells b ++ Lib.strCells (m.f0.extract 0 n.toNat) := by rw [mmB_strCells_eq]; unfold Lib.byteCells; rw [List.map_append]
           exact ⟨i + 1, _, (by first | rfl | exact congrArg (fun y => Value.int .i64 y) hw), ⟨by have := HI.out; omega⟩, ⟨HILT.out⟩, HBT, ⟨by rw [e1]; exact .inr HBA.out⟩, HGL4, HB4⟩
         ·cases hb
        ·have hlt : decide (i < q1.length) = false := decide_eq_false hi
         have hlt' : decide ((i : Int) < (q1.length : Int)) = false := decide_eq_false (by omega)
         have hb := HBS.out
         rw [List.drop_eq_nil_of_le (by omega), mm_text] at hb
         obtain rfl := Option.some.inj hb
         clear hi hb
         go_wp2_with (first
          | (go_at_call 76; (with_reducible refine (mmB_string gb gb b _ HBD.out HGL.out).mono ?_); rintro e w4 ⟨rfl, hb⟩; have HB4 := Aside0.mk (HBW.out.trans (hb.mono GB.out)); clear hb))
         go_ret2
         exact ⟨(by first | rfl | (simp [go_sem]; done)), below_step HB.out HB4.out⟩
      ·cases hen
 ·have hb0 : (q3 != 0) = true := bne_iff_ne.2 h0
  have hen := HEN.out
  unfold mm_end at hen
  rw [if_neg (show ¬ (q1, q2, q3).2.2 = 0 from h0)] at hen
  simp only [Option.some.injEq, Prod.mk.injEq] at hen
  obtain ⟨rfl, rfl⟩ := hen
  clear HEN h0
  go_wp2_with (first
   | (go_at_call 54; (with_reducible refine (mend_All.calls k _ _ l0 a1 _ _ l2 q1 q2 q3 _ HR0.out HC0.out HR2.out HC2.out HAL.out).mono ?_); rintro e w1 ⟨v0, v1, rfl, hO, hR, hb⟩; have HO := Aside0.mk (Kd.S_reads hO); have HR := Aside0.mk (Kd.R_reads hR); have HB := Aside0.mk hb; clear hO hR hb; obtain ⟨Ar, cr, rfl, hcr, hCr⟩ := HR.out; obtain ⟨Ao, co, rfl, hco, hCo⟩ := HO.out; have HCO := Aside0.mk hCo; have HLO := Aside0.mk hco; clear HO HR hcr hCr hCo hco))
  go_ret2
  exact ⟨(by first | rfl | (simp [go_sem]; done)), HB.out⟩
theorem mend_Message.calls (k : Nat) (A0 : Option Addr) (c0 : Nat) (l0 : List ByteArray) (a1 : Int) (A2 : Option Addr) (c2 : Nat) (l2 : List (List Int)) (r1 : ByteArray) (r2 : Int) (w : World) (hr0 : Kd.C Kd.string w A0 l0.length l0) (hc0 : l0.length ≤ c0) (hr2 : Kd.C (Kd.slice 3 (Kd.int .i64)) w A2 l2.length l2) (hc2 : l2.length ≤ c2) (h : mend_Message.f k l0 a1 l2 = some (r1, r2)) :
  Calls Try.prog 63 #[.slice A0 l0.length c0, .int .i64 a1, .slice A2 l2.length c2] w fun e w' => e = .returned (.tuple #[.string r1, .int .i64 r2]) ∧ Below w.heap.size w w' := by
 unfold mend_Message.f at h
 split at h
 ·rename_i hl
  obtain ⟨⟨q1, q2, q3⟩, hq, h⟩ := Option.bind_eq_some_iff.1 h
  exact mm_go k A0 c0 l0 a1 A2 c2 l2 q1 q2 q3 r1 r2 w hr0 hc0 hr2 hc2 hl hq h
 ·cases h
end Go.Proofs.Ytncoakokdajibaa.Q
