import Derived.Test.YtncoakokdajibaaMendOverK0
import Derived.Test.YtncoakokdajibaaMendOverF1
import Derived.Test.YtncoakokdajibaaMendOverQ1
import Derived.Test.YtncoakokdajibaaMendOverQ4
-- Printed by myprint.py (ours) over the kit's printer, out of the translation.
namespace Go.Proofs.Ytncoakokdajibaa.Q
open Go.RowKit Go.Proofs.YtncoakokdajibaaW.PrintWords Go.Proofs.YtncoakokdajibaaW.PrintLast Go.Proofs.YtncoakokdajibaaW.PrintMore
attribute [local go_sem] ArrW.ptrOf_slice unary_neg_float unary_neg_complex run_store_float run_store_complex max2_int min2_int max_two min_two max_three min_three max_four min_four   -- for this text's walks alone
set_option linter.unusedVariables false
set_option linter.unusedSimpArgs false
set_option maxHeartbeats 8000000 in
set_option maxRecDepth 100000 in
theorem foghornlaw20_sent.calls (k : Nat) (a0 : ByteArray) (a1 : Int) (r1 : ByteArray) (r2 : Int) (w : World) (h : foghornlaw20_sent.f k a0 a1 = some (r1, r2)) :
  Calls Try.prog 50 #[.string a0, .int .i64 a1] w fun e w' => e = .returned (.tuple #[.string r1, .int .i64 r2]) ∧ Below w.heap.size w w' := by
 have HB := Aside0.mk (Below.refl w.heap.size w)
 have H : (if (a0.size : Int) > (wrap64 (255 - (wrap64 (2 + (wrap64 (2 * (Int.tmod (wrap64 ((Int.tmod a1 32) + 32)) 32))))))) then (if 0 ≤ (wrap64 (255 - (wrap64 (2 + (wrap64 (2 * (Int.tmod (wrap64 ((Int.tmod a1 32) + 32)) 32))))))) then (if (wrap64 (255 - (wrap64 (2 + (wrap64 (2 * (Int.tmod (wrap64 ((Int.tmod a1 32) + 32)) 32))))))) ≤ (a0.size : Int) then (if (a0.extract 0 ((wrap64 (255 - (wrap64 (2 + (wrap64 (2 * (Int.tmod (wrap64 ((Int.tmod a1 32) + 32)) 32))))))) : Int).toNat).toList = ([] : List UInt8) then ((foghornref19_Encode.f k (⟨#[97]⟩ : ByteArray) (wrap64 (2 + (wrap64 (2 * (Int.tmod (wrap64 ((Int.tmod a1 32) + 32)) 32)))))).bind fun bt804 => (some (bt804.1, wrap64 (2 + (wrap64 (2 * (Int.tmod (wrap64 ((Int.tmod a1 32) + 32)) 32))))))) else ((foghornref19_Encode.f k (a0.extract 0 ((wrap64 (255 - (wrap64 (2 + (wrap64 (2 * (Int.tmod (wrap64 ((Int.tmod a1 32) + 32)) 32))))))) : Int).toNat) (wrap64 (2 + (wrap64 (2 * (Int.tmod (wrap64 ((Int.tmod a1 32) + 32)) 32)))))).bind fun bt806 => (some (bt806.1, wrap64 (2 + (wrap64 (2 * (Int.tmod (wrap64 ((Int.tmod a1 32) + 32)) 32)))))))) else (none)) else (none)) else (if a0.toList = ([] : List UInt8) then ((foghornref19_Encode.f k (⟨#[97]⟩ : ByteArray) (wrap64 (2 + (wrap64 (2 * (Int.tmod (wrap64 ((Int.tmod a1 32) + 32)) 32)))))).bind fun bt808 => (some (bt808.1, wrap64 (2 + (wrap64 (2 * (Int.tmod (wrap64 ((Int.tmod a1 32) + 32)) 32))))))) else ((foghornref19_Encode.f k a0 (wrap64 (2 + (wrap64 (2 * (Int.tmod (wrap64 ((Int.tmod a1 32) + 32)) 32)))))).bind fun bt810 => (some (bt810.1, wrap64 (2 + (wrap64 (2 * (Int.tmod (wrap64 ((Int.tmod a1 32) + 32)) 32))))))))) = some (r1, r2) := h
 clear h
 by_cases c3 : (a0.size : Int) > (wrap64 (255 - (wrap64 (2 + (wrap64 (2 * (Int.tmod (wrap64 ((Int.tmod a1 32) + 32)) 32)))))))
 ·rw [if_pos c3] at H
  have c3b0 : decide ((wrap64 (255 - (wrap64 (2 + (wrap64 (2 * (Int.tmod (wrap64 ((Int.tmod a1 32) + 32)) 32))))))) < (a0.size : Int)) = true := decide_eq_true c3
  clear c3
  obtain ⟨ji4, hji4⟩ : ∃ j_ : Int, (wrap64 (255 - (wrap64 (2 + (wrap64 (2 * (Int.tmod (wrap64 ((Int.tmod a1 32) + 32)) 32))))))) = j_ := ⟨_, rfl⟩
  replace H : (if 0 ≤ (ji4) then (if (ji4) ≤ (a0.size : Int) then (if (a0.extract 0 ((ji4) : Int).toNat).toList = ([] : List UInt8) then ((foghornref19_Encode.f k (⟨#[97]⟩ : ByteArray) (wrap64 (2 + (wrap64 (2 * (Int.tmod (wrap64 ((Int.tmod a1 32) + 32)) 32)))))).bind fun bt804 => (some (bt804.1, wrap64 (2 + (wrap64 (2 * (Int.tmod (wrap64 ((Int.tmod a1 32) + 32)) 32))))))) else ((foghornref19_Encode.f k (a0.extract 0 ((ji4) : Int).toNat) (wrap64 (2 + (wrap64 (2 * (Int.tmod (wrap64 ((Int.tmod a1 32) + 32)) 32)))))).bind fun bt806 => (some (bt806.1, wrap64 (2 + (wrap64 (2 * (Int.tmod (wrap64 ((Int.tmod a1 32) + 32)) 32)))))))) else (none)) else (none)) = some (r1, r2) := by first | (rw [hji4] at H; exact H) | (simp only [hji4] at H ⊢; exact H)
  (try rw [hji4] at c3b0)
  have hji4w : (IntKind.i64.wrap (255 - (wrap64 (2 + (wrap64 (2 * (Int.tmod (wrap64 ((Int.tmod a1 32) + 32)) 32))))))) = ji4 := (i64_w _).trans hji4
  by_cases c5 : 0 ≤ (ji4)
  ·rw [if_pos c5] at H
   have c5b0 := eq_true c5
   have c5b1 : decide (0 ≤ (ji4)) = true := decide_eq_true c5
   clear c5
   by_cases c6 : (ji4) ≤ (a0.size : Int)
   ·rw [if_pos c6] at H
    have c6b0 := eq_true c6
    have c6b1 : decide ((ji4) ≤ (a0.size : Int)) = true := decide_eq_true c6
    clear c6
    by_cases c7 : (a0.extract 0 ((ji4) : Int).toNat).toList = ([] : List UInt8)
    ·rw [if_pos c7] at H
     have c7b0 : ((a0.extract 0 ((ji4) : Int).toNat).toList == ([] : List UInt8)) = true := beq_iff_eq.mpr c7
     have c7b1 : ((a0.extract 0 ((ji4) : Int).toNat).toList != ([] : List UInt8)) = false := bne_eq_false_iff_eq.mpr c7
     clear c7
     replace H := Option.bind_eq_some_iff.mp H
     obtain ⟨⟨t804, t805⟩, A80, H⟩ := H
     replace H : (some (t804, wrap64 (2 + (wrap64 (2 * (Int.tmod (wrap64 ((Int.tmod a1 32) + 32)) 32)))))) = some (r1, r2) := H
     have A8 := Aside0.mk A80
     clear A80
     simp only [Option.some.injEq, Prod.mk.injEq] at H
     obtain ⟨rfl, rfl⟩ := H
     go_enter Try.func50, Try.ntmps50
     go_wp2_with (first | ((with_reducible refine gate_callee (f := 24) rfl ?_); refine goesL_ (some 28) rfl rfl Try.func24 (by kernel_rfl) rfl #[.string (⟨#[97]⟩ : ByteArray), .int .i64 (wrap64 (2 + (wrap64 (2 * (Int.tmod (wrap64 ((Int.tmod a1 32) + 32)) 32)))))] rfl (by (try simp only [List.map_toArray, List.map_cons, List.map_nil]); first | done | rfl | (simp only [List.length_drop, List.length_take]; rfl)) ?_; (with_reducible refine (foghornref19_Encode.calls k (⟨#[97]⟩ : ByteArray) (wrap64 (2 + (wrap64 (2 * (Int.tmod (wrap64 ((Int.tmod a1 32) + 32)) 32))))) t804 t805 _ A8.out).mono ?_); rintro e w9 ⟨rfl, hb⟩; refine ⟨_, rfl, ?_⟩; have n0_ := Aside0.mk (below_step (by repeat (first | (with_reducible first | exact HB.out | apply below_alloc | apply pw_below_drewN | apply below_drew1) | exact HB.out)) hb); clear HB; have HB := n0_; clear n0_; (try clear hb); (try clear hb2); (try clear hk); (try clear hi)))
     go_ret2
     exact ⟨by first | rfl | (simp [errW_none, errW_some] <;> rfl) | (simp only [← hji4]; first | rfl | (simp [errW_none, errW_some] <;> rfl)) | (simp [*, errW_none, errW_some] <;> rfl), by repeat (first | (with_reducible first | exact HB.out | apply below_alloc | apply pw_below_drewN | apply below_drew1) | exact HB.out)⟩
    ·rw [if_neg c7] at H
     have c7b0 : ((a0.extract 0 ((ji4) : Int).toNat).toList == ([] : List UInt8)) = false := beq_eq_false_iff_ne.mpr c7
     have c7b1 : ((a0.extract 0 ((ji4) : Int).toNat).toList != ([] : List UInt8)) = true := bne_iff_ne.mpr c7
     replace H := Option.bind_eq_some_iff.mp H
     obtain ⟨⟨t806, t807⟩, A100, H⟩ := H
     replace H : (some (t806, wrap64 (2 + (wrap64 (2 * (Int.tmod (wrap64 ((Int.tmod a1 32) + 32)) 32)))))) = some (r1, r2) := H
     have A10 := Aside0.mk A100
     clear A100
     simp only [Option.some.injEq, Prod.mk.injEq] at H
     obtain ⟨rfl, rfl⟩ := H
     go_enter Try.func50, Try.ntmps50
     go_wp2_with (first | ((with_reducible refine gate_callee (f := 24) rfl ?_); refine goesL_ (some 28) rfl rfl Try.func24 (by kernel_rfl) rfl #[.string (a0.extract 0 ((ji4) : Int).toNat), .int .i64 (wrap64 (2 + (wrap64 (2 * (Int.tmod (wrap64 ((Int.tmod a1 32) + 32)) 32)))))] rfl (by (try simp only [List.map_toArray, List.map_cons, List.map_nil]); first | done | (simp only [hji4]; rfl) | rfl | (simp only [List.length_drop, List.length_take]; rfl)) ?_; (with_reducible refine (foghornref19_Encode.calls k (a0.extract 0 ((ji4) : Int).toNat) (wrap64 (2 + (wrap64 (2 * (Int.tmod (wrap64 ((Int.tmod a1 32) + 32)) 32))))) t806 t807 _ A10.out).mono ?_); rintro e w11 ⟨rfl, hb⟩; refine ⟨_, rfl, ?_⟩; have n0_ := Aside0.mk (below_step (by repeat (first | (with_reducible first | exact HB.out | apply below_alloc | apply pw_below_drewN | apply below_drew1) | exact HB.out)) hb); clear HB; have HB := n0_; clear n0_; (try clear hb); (try clear hb2); (try clear hk); (try clear hi)))
     go_ret2
     exact ⟨by first | rfl | (simp [errW_none, errW_some] <;> rfl) | (simp only [← hji4]; first | rfl | (simp [errW_none, errW_some] <;> rfl)) | (simp [*, errW_none, errW_some] <;> rfl), by repeat (first | (with_reducible first | exact HB.out | apply below_alloc | apply pw_below_drewN | apply below_drew1) | exact HB.out)⟩
   ·rw [if_neg c6] at H
    exact absurd H (by simp)
  ·rw [if_neg c5] at H
   exact absurd H (by simp)
 ·rw [if_neg c3] at H
  have c3b0 : decide ((wrap64 (255 - (wrap64 (2 + (wrap64 (2 * (Int.tmod (wrap64 ((Int.tmod a1 32) + 32)) 32))))))) < (a0.size : Int)) = false := decide_eq_false c3
  clear c3
  by_cases c12 : a0.toList = ([] : List UInt8)
  ·rw [if_pos c12] at H
   have c12b0 : (a0.toList == ([] : List UInt8)) = true := beq_iff_eq.mpr c12
   have c12b1 : (a0.toList != ([] : List UInt8)) = false := bne_eq_false_iff_eq.mpr c12
   clear c12
   replace H := Option.bind_eq_some_iff.mp H
   obtain ⟨⟨t808, t809⟩, A130, H⟩ := H
   replace H : (some (t808, wrap64 (2 + (wrap64 (2 * (Int.tmod (wrap64 ((Int.tmod a1 32) + 32)) 32)))))) = some (r1, r2) := H
   have A13 := Aside0.mk A130
   clear A130
   simp only [Option.some.injEq, Prod.mk.injEq] at H
   obtain ⟨rfl, rfl⟩ := H
   go_enter Try.func50, Try.ntmps50
   go_wp2_with (first | ((with_reducible refine gate_callee (f := 24) rfl ?_); refine goesL_ (some 28) rfl rfl Try.func24 (by kernel_rfl) rfl #[.string (⟨#[97]⟩ : ByteArray), .int .i64 (wrap64 (2 + (wrap64 (2 * (Int.tmod (wrap64 ((Int.tmod a1 32) + 32)) 32)))))] rfl (by (try simp only [List.map_toArray, List.map_cons, List.map_nil]); first | done | rfl | (simp only [List.length_drop, List.length_take]; rfl)) ?_; (with_reducible refine (foghornref19_Encode.calls k (⟨#[97]⟩ : ByteArray) (wrap64 (2 + (wrap64 (2 * (Int.tmod (wrap64 ((Int.tmod a1 32) + 32)) 32))))) t808 t809 _ A13.out).mono ?_); rintro e w14 ⟨rfl, hb⟩; refine ⟨_, rfl, ?_⟩; have n0_ := Aside0.mk (below_step (by repeat (first | (with_reducible first | exact HB.out | apply below_alloc | apply pw_below_drewN | apply below_drew1) | exact HB.out)) hb); clear HB; have HB := n0_; clear n0_; (try clear hb); (try clear hb2); (try clear hk); (try clear hi)))
   go_ret2
   exact ⟨by first | rfl | (simp [errW_none, errW_some] <;> rfl) | (simp [*, errW_none, errW_some] <;> rfl), by repeat (first | (with_reducible first | exact HB.out | apply below_alloc | apply pw_below_drewN | apply below_drew1) | exact HB.out)⟩
  ·rw [if_neg c12] at H
   have c12b0 : (a0.toList == ([] : List UInt8)) = false := beq_eq_false_iff_ne.mpr c12
   have c12b1 : (a0.toList != ([] : List UInt8)) = true := bne_iff_ne.mpr c12
   replace H := Option.bind_eq_some_iff.mp H
   obtain ⟨⟨t810, t811⟩, A150, H⟩ := H
   replace H : (some (t810, wrap64 (2 + (wrap64 (2 * (Int.tmod (wrap64 ((Int.tmod a1 32) + 32)) 32)))))) = some (r1, r2) := H
   have A15 := Aside0.mk A150
   clear A150
   simp only [Option.some.injEq, Prod.mk.injEq] at H
   obtain ⟨rfl, rfl⟩ := H
   go_enter Try.func50, Try.ntmps50
   go_wp2_with (first | ((with_reducible refine gate_callee (f := 24) rfl ?_); refine goesL_ (some 28) rfl rfl Try.func24 (by kernel_rfl) rfl #[.string a0, .int .i64 (wrap64 (2 + (wrap64 (2 * (Int.tmod (wrap64 ((Int.tmod a1 32) + 32)) 32)))))] rfl (by (try simp only [List.map_toArray, List.map_cons, List.map_nil]); first | done | rfl | (simp only [List.length_drop, List.length_take]; rfl)) ?_; (with_reducible refine (foghornref19_Encode.calls k a0 (wrap64 (2 + (wrap64 (2 * (Int.tmod (wrap64 ((Int.tmod a1 32) + 32)) 32))))) t810 t811 _ A15.out).mono ?_); rintro e w16 ⟨rfl, hb⟩; refine ⟨_, rfl, ?_⟩; have n0_ := Aside0.mk (below_step (by repeat (first | (with_reducible first | exact HB.out | apply below_alloc | apply pw_below_drewN | apply below_drew1) | exact HB.out)) hb); clear HB; have HB := n0_; clear n0_; (try clear hb); (try clear hb2); (try clear hk); (try clear hi)))
   go_ret2
   exact ⟨by first | rfl | (simp [errW_none, errW_some] <;> rfl) | (simp [*, errW_none, errW_some] <;> rfl), by repeat (first | (with_reducible first | exact HB.out | apply below_alloc | apply pw_below_drewN | apply below_drew1) | exact HB.out)⟩
set_option maxHeartbeats 8000000 in
set_option maxRecDepth 100000 in
theorem foghornref20_Numbers.calls (k : Nat) (A0 : Option Addr) (c0 : Nat) (l0 : List Int) (A1 : Option Addr) (c1 : Nat) (l1 : List Int) (r : Bool) (w : World) (hr0 : Kd.C (Kd.int .i64) w A0 l0.length l0) (hc0 : l0.length ≤ c0) (hr1 : Kd.C (Kd.int .i64) w A1 l1.length l1) (hc1 : l1.length ≤ c1) (h : foghornref20_Numbers.f k l0 l1 = some r) :
  Calls Try.prog 52 #[.slice A0 l0.length c0, .slice A1 l1.length c1] w fun e w' => e = .returned (.bool r) ∧ Drawn0 w w' := by
 have HR0 := Aside0.mk hr0
 have HC0 := Aside0.mk hc0
 clear hr0 hc0
 have HR1 := Aside0.mk hr1
 have HC1 := Aside0.mk hc1
 clear hr1 hc1
 have H : (if (l0.length : Int) = (l1.length : Int) then (foghornref20_Numbers.l0 k l0 l1 0) else (some false)) = some r := h
 clear h
 by_cases c3 : (l0.length : Int) = (l1.length : Int)
 ·rw [if_pos c3] at H
  have c3b0 : ((l0.length : Int) == (l1.length : Int)) = true := beq_iff_eq.mpr c3
  have c3b1 : ((l0.length : Int) != (l1.length : Int)) = false := bne_eq_false_iff_eq.mpr c3
  have c3b2 : (l0.length == l1.length) = true := by first | simpa using c3 | (simp at c3 ⊢; omega)
  clear c3
  have H' := Aside0.mk H
  clear H
  go_enter Try.func52, Try.ntmps52
  go_wp2
  repeat (go_quiet (fail); try go_wp2)
  go_loopg [5] k (fun kq v5 w' => ∃ (x5_1 : Int), v5 = .int .i64 x5_1 ∧ Aside0 (foghornref20_Numbers.l0 kq l0 l1 x5_1 = some r) ∧ Aside0 (kq ≤ k) ∧ Drawn0 w w')
  case atStart => exact ⟨(0), (by first | rfl | (simp; done) | (simp [*]; done)), H', ⟨Nat.le_refl _⟩, by repeat (first | exact Drawn0.refl _ | apply Drawn0.step)⟩
  case round =>
   clear H'
   try clear c1
   try clear p2
   try clear c3
   try clear c3b0
   try clear c3b1
   try clear c3b2
   obtain ⟨x5_1, rfl, HA, HK1, ⟨m1, rfl⟩⟩ := hrel
   cases gk with
   | zero => exact absurd HA.out (by simp [foghornref20_Numbers.l0])
   | succ k1 =>
    have H := HA.out
    clear HA
    simp only [foghornref20_Numbers.l0] at H
    by_cases c4 : x5_1 < (l0.length : Int)
    ·rw [if_pos c4] at H
     have c4b0 : decide (x5_1 < (l0.length : Int)) = true := decide_eq_true c4
     clear c4
     by_cases c5 : 0 ≤ x5_1
     ·rw [if_pos c5] at H
      have c5b0 : decide (0 ≤ x5_1) = true := decide_eq_true c5
      clear c5
      by_cases c6 : x5_1 < (l1.length : Int)
      ·rw [if_pos c6] at H
       have c6b0 : decide (x5_1 < (l1.length : Int)) = true := decide_eq_true c6
       clear c6
       by_cases c7 : (rd l0 x5_1) = (rd l1 x5_1)
       ·rw [if_pos c7] at H
        have c7b0 : ((rd l0 x5_1) == (rd l1 x5_1)) = true := beq_iff_eq.mpr c7
        have c7b1 : ((rd l0 x5_1) != (rd l1 x5_1)) = false := bne_eq_false_iff_eq.mpr c7
        clear c7
        have H' := Aside0.mk H
        clear H
        have p812 : 0 ≤ (x5_1 : Int) := of_decide_eq_true (by first | (with_reducible assumption) | assumption)
        have q812 : x5_1 < (l0.length : Int) := of_decide_eq_true (by first | (with_reducible assumption) | assumption)
        obtain ⟨ad812, e812, hx812_0⟩ := Kd.at_int HR0.out x5_1 p812 q812
        cases e812
        replace p812 := eq_true p812
        replace q812 := eq_true q812
        have p813 : 0 ≤ (x5_1 : Int) := of_decide_eq_true (by first | (with_reducible assumption) | assumption)
        have q813 : x5_1 < (l1.length : Int) := of_decide_eq_true (by first | (with_reducible assumption) | assumption)
        obtain ⟨ad813, e813, hx813_0⟩ := Kd.at_int HR1.out x5_1 p813 q813
        cases e813
        replace p813 := eq_true p813
        replace q813 := eq_true q813
        go_wp2
        repeat (go_quiet (fail); try go_wp2)
        first | go_roundg k1 | (simp only [add_plain] at *; go_roundg k1)
        case measure => have := HK1.out; omega
        case rel => exact ⟨(wrap64 (x5_1 + 1)), (by first | rfl | (simp; done) | (simp [*]; done)), H', ⟨by have := HK1.out; omega⟩, by repeat (first | exact Drawn0.refl _ | apply Drawn0.step)⟩
       ·rw [if_neg c7] at H
        have c7b0 : ((rd l0 x5_1) == (rd l1 x5_1)) = false := beq_eq_false_iff_ne.mpr c7
        have c7b1 : ((rd l0 x5_1) != (rd l1 x5_1)) = true := bne_iff_ne.mpr c7
        obtain rfl := Option.some.inj H
        have p812 : 0 ≤ (x5_1 : Int) := of_decide_eq_true (by first | (with_reducible assumption) | assumption)
        have q812 : x5_1 < (l0.length : Int) := of_decide_eq_true (by first | (with_reducible assumption) | assumption)
        obtain ⟨ad812, e812, hx812_0⟩ := Kd.at_int HR0.out x5_1 p812 q812
        cases e812
        replace p812 := eq_true p812
        replace q812 := eq_true q812
        have p813 : 0 ≤ (x5_1 : Int) := of_decide_eq_true (by first | (with_reducible assumption) | assumption)
        have q813 : x5_1 < (l1.length : Int) := of_decide_eq_true (by first | (with_reducible assumption) | assumption)
        obtain ⟨ad813, e813, hx813_0⟩ := Kd.at_int HR1.out x5_1 p813 q813
        cases e813
        replace p813 := eq_true p813
        replace q813 := eq_true q813
        go_wp2
        repeat (go_quiet (fail); try go_wp2)
        go_ret
        exact ⟨by first | rfl | (simp; done) | (simp [*]; done), by repeat (first | exact Drawn0.refl _ | apply Drawn0.step)⟩
      ·rw [if_neg c6] at H
       exact absurd H (by simp)
     ·rw [if_neg c5] at H
      exact absurd H (by simp)
    ·rw [if_neg c4] at H
     have c4b0 : decide (x5_1 < (l0.length : Int)) = false := decide_eq_false c4
     clear c4
     obtain rfl := Option.some.inj H
     go_wp2
     repeat (go_quiet (fail); try go_wp2)
     go_ret
     exact ⟨by first | rfl | (simp; done) | (simp [*]; done), by repeat (first | exact Drawn0.refl _ | apply Drawn0.step)⟩
 ·rw [if_neg c3] at H
  have c3b0 : ((l0.length : Int) == (l1.length : Int)) = false := beq_eq_false_iff_ne.mpr c3
  have c3b1 : ((l0.length : Int) != (l1.length : Int)) = true := bne_iff_ne.mpr c3
  have c3b2 : (l0.length == l1.length) = false := by first | simpa using c3 | (simp at c3 ⊢; omega)
  obtain rfl := Option.some.inj H
  go_enter Try.func52, Try.ntmps52
  go_wp2
  repeat (go_quiet (fail); try go_wp2)
  go_ret
  exact ⟨by first | rfl | (simp; done) | (simp [*]; done), by repeat (first | exact Drawn0.refl _ | apply Drawn0.step)⟩
--WALK
set_option maxHeartbeats 8000000 in
set_option maxRecDepth 100000 in
theorem al_go (k : Nat) (A0 : Option Addr) (c0 : Nat) (l0 : List ByteArray) (a1 : Int) (A2 : Option Addr) (c2 : Nat) (l2 : List (List Int)) (r1 : List S64) (r2 : List Int) (r3 : Int) (w : World) (hr0 : Kd.C Kd.string w A0 l0.length l0) (hc0 : l0.length ≤ c0) (hr2 : Kd.C (Kd.slice 3 (Kd.int .i64)) w A2 l2.length l2) (hc2 : l2.length ≤ c2)
  (hchk : reed_Check.f (wrap64 (a1 + 1)) a1 = some 0) (hll : l0.length = l2.length) (hmax : l0.length ≤ 32768) (hrun : al_run k a1 l0 l2 0 [] [] = some (r1, r2, r3)) :
  Calls Try.prog 54 #[.slice A0 l0.length c0, .int .i64 a1, .slice A2 l2.length c2] w fun e w' => ∃ v0_ v1_ : Value, e = .returned (.tuple #[v0_, v1_, .int .i64 r3]) ∧ Kd.S k64 64 w' w.heap.size (fun k_ => some k_ ≠ (v1_ : Value).ownBlock) v0_ r1 ∧ Kd.R (Kd.int .i64) 3 w' w.heap.size (fun _ => True) v1_ r2 ∧ Below w.heap.size w w' := by
 have HR0 := Aside0.mk hr0
 have HR2 := Aside0.mk hr2
 have HCK := Aside0.mk hchk
 have HLL := Aside0.mk hll
 have HMX := Aside0.mk hmax
 have HRN := Aside0.mk hrun
 have HB := Aside0.mk (Below.refl w.heap.size w)
 have hu64 := Try.underlying64
 have ht1 : ((l0.length : Int) != (l2.length : Int)) = false := bne_eq_false_iff_eq.2 (by omega)
 have ht2 : decide ((l0.length : Int) > 32768) = false := decide_eq_false (by omega)
 have ht3 : decide (32768 < (l0.length : Int)) = false := decide_eq_false (by omega)
 have ht4 : decide (32768 < l0.length) = false := decide_eq_false (by omega)
 clear hr0 hr2 hchk hll hmax hrun
 go_enter Try.func54, Try.ntmps54
 go_wp2_with (first
  | (go_at_call 34; (with_reducible refine (reed_Check.calls (wrap64 (a1 + 1)) a1 0 _ HCK.out).mono ?_); rintro e w1 ⟨rfl, ⟨nd, rfl⟩⟩; replace HB := Aside0.mk (pw_below_drewN HB.out nd)))
 have hgx : True := trivial
 clear ht1 ht2 ht3 ht4
 go_loopg [6, 7, 32] (l0.length + 1) (fun kq v6 v7 v32 w' => ∃ (i : Nat) (out : List S64) (ref : List Int) (okO okR : Nat → Prop), v32 = .int .i64 (i : Int) ∧ Aside0 (i + kq = l0.length + 1) ∧ Aside0 (out.length = i ∧ ref.length ≤ i ∧ i ≤ l0.length) ∧ Aside0 (al_run k a1 (l0.drop i) (l2.drop i) i out ref = some (r1, r2, r3)) ∧ Aside0 (Kd.S k64 64 w' w.heap.size okO v6 out) ∧ Aside0 (Kd.R (Kd.int .i64) 3 w' w.heap.size okR v7 ref) ∧ Aside0 (∀ k_, okO k_ → ¬ okR k_) ∧ Aside0 (Below w.heap.size w w'))
 case atStart => exact ⟨0, [], [], fun _ => True, fun _ => False, rfl, ⟨by omega⟩, ⟨rfl, Nat.le_refl _, Nat.zero_le _⟩, HRN, ⟨Kd.S_nil _ _ _ _ _⟩, ⟨Kd.R_nil _ _ _ _ _⟩, ⟨fun _ _ h => h⟩, HB⟩
 case round =>
  clear HB HRN
  obtain ⟨i, out, ref, okO, okR, rfl, HI, HL, HRN, HO, HR, HD, HB⟩ := hrel
  cases gk with
  | zero => have := HI.out; have := HL.out; omega
  | succ k1 =>
  by_cases hi : i < l0.length
  ·have hlt : decide (i < l0.length) = true := decide_eq_true hi
   have hlt' : decide ((i : Int) < (l0.length : Int)) = true := decide_eq_true (by omega)
   have hi2 : i < l2.length := by have := HLL.out; omega
   obtain ⟨ad0, e0, hc0⟩ := Kd.at_string HR0.out (i : Int) (by omega) (by omega)
   obtain ⟨ad2, A, c, e2, hc2', hlc, hCl⟩ := at_L9 HR2.out (i : Int) (by omega) (by omega)
   subst e0 e2
   have hs : rdOf ByteArray.empty l0 (i : Int) = l0[i] := by unfold rdOf; rw [Int.toNat_natCast, List.getD_eq_getElem?_getD, List.getElem?_eq_getElem hi]; rfl
   have hl : rd_L9 l2 (i : Int) = l2[i] := by unfold rd_L9; rw [Int.toNat_natCast, List.getD_eq_getElem?_getD, List.getElem?_eq_getElem hi2]; rfl
   rw [hs, Int.toNat_natCast] at hc0
   rw [hl] at hc2' hlc hCl
   rw [Int.toNat_natCast] at hc2'
   obtain ⟨s, hsx⟩ : ∃ s, s = l0[i] := ⟨_, rfl⟩
   obtain ⟨l, hlx⟩ : ∃ l, l = l2[i] := ⟨_, rfl⟩
   rw [← hsx] at hc0
   rw [← hlx] at hc2' hlc hCl
   have HC0 := Aside0.mk (show ∀ W : World, Below w.heap.size w W → W.cell? (ad0.add i) = some (.string s) from fun W hb => (hb.cell (World.block_lt_of_cell? w _ hc0)).trans hc0)
   have HC2 := Aside0.mk (show ∀ W : World, Below w.heap.size w W → W.cell? (ad2.add i) = some (.slice A l.length c) from fun W hb => (hb.cell (World.block_lt_of_cell? w _ hc2')).trans hc2')
   have HLC := Aside0.mk hlc
   have HCL := Aside0.mk hCl
   have hR := HRN.out
   rw [List.drop_eq_getElem_cons hi, List.drop_eq_getElem_cons hi2, ← hsx, ← hlx, al_run] at hR
   obtain ⟨⟨m1, m2, m3, m4⟩, hM, hR⟩ := Option.bind_eq_some_iff.1 hR
   have HM := Aside0.mk hM
   have HR2' := Aside0.mk hR
   have hp0 : (0 ≤ (i : Int)) = True := eq_true (by omega)
   have hp1 : ((i : Int) < (l0.length : Int)) = True := eq_true (by omega)
   have hp2 : ((i : Int) < (l2.length : Int)) = True := eq_true (by omega)
   have hp3 : (i < l0.length) = True := eq_true hi
   have hp4 : (i < l2.length) = True := eq_true hi2
   have hx0 := HC0.out wr HB.out
   have hx2 := HC2.out wr HB.out
   clear hs hl hc0 hc2' hlc hCl hR hM hsx hlx hi hi2
   have HILT := Aside0.mk (show i < l0.length from of_decide_eq_true hlt)
   by_cases h1 : m4 = 1
   ·have hb1 : (m4 == 1) = true := beq_iff_eq.2 h1
    have hend := HR2'.out
    rw [if_pos (show (m1, m2, m3, m4).2.2.2 = 1 from h1)] at hend
    simp only [Option.some.injEq, Prod.mk.injEq] at hend
    obtain ⟨rfl, rfl, rfl⟩ := hend
    have hx1 : True := trivial
    go_wp2_with (first
     | (go_at_call 51; (with_reducible refine (mend_Mend.calls k s a1 _ _ l m1 m2 m3 m4 _ (Kd.C_below HCL.out HB.out) HLC.out HM.out).mono ?_); rintro e w1 ⟨v1, v2, rfl, ho1, ho2, hb⟩; have HW1 := Aside0.mk ho1; have HW2 := Aside0.mk ho2; have HB1 := Aside0.mk hb; clear ho1 ho2 hb)
     | ((with_reducible refine gate_dst (N := 11) rfl ?_); refine box_event ?hg (N := 11) ?hd (cs := #[.string (⟨#[]⟩ : ByteArray), .slice none 0 0, .slice none 0 0]) (t := 64) ?hr ?_; (case hd => rfl); (case hg => rfl); (case hr => first | (go_simp; done) | (go_simp; rfl)); intro g11 hg11 w2 hbox hb; have BK := Aside0.mk hbox; have G11 := Aside0.mk hg11; have HB2 := Aside0.mk hb; clear hbox hg11 hb; have hcz0 : w2.cell? ⟨g11, 0, none⟩ = some (.string (⟨#[]⟩ : ByteArray)) := (blk_cell BK.out 0).trans rfl; have hcz1 : w2.cell? ⟨g11, 1, none⟩ = some (.slice none 0 0) := (blk_cell BK.out 1).trans rfl; have hcz2 : w2.cell? ⟨g11, 2, none⟩ = some (.slice none 0 0) := (blk_cell BK.out 2).trans rfl; have hfz0 := blk_frozen BK.out 0; have hfz1 := blk_frozen BK.out 1; have hfz2 := blk_frozen BK.out 2; obtain ⟨Ao1, co1, eo1⟩ := Kd.R_slice HW1.out; subst eo1; obtain ⟨Ao2, co2, eo2⟩ := Kd.R_slice HW2.out; subst eo2))
    go_ret3
    exact ⟨_, _, (by first | rfl | rw [h1]), Kd.S_nil _ _ _ _ _, Kd.R_nil _ _ _ _ _, by have hb := HB2.out; have hg := G11.out; exact below_step HB.out (below_step HB1.out (below_set (below_set (below_set hb (Nat.le_of_eq hg.symm)) (Nat.le_of_eq hg.symm)) (Nat.le_of_eq hg.symm)))⟩
   have hb1 : (m4 == 1) = false := beq_eq_false_iff_ne.2 h1
   have hend := HR2'.out
   rw [if_neg (show ¬ (m1, m2, m3, m4).2.2.2 = 1 from h1)] at hend
   have HRN1 := Aside0.mk hend
   clear hend HR2' HRN
   go_upto_region 7 with (first
    | (go_at_call 51; (with_reducible refine (mend_Mend.calls k s a1 _ _ l m1 m2 m3 m4 _ (Kd.C_below HCL.out HB.out) HLC.out HM.out).mono ?_); rintro e w1 ⟨v1, v2, rfl, ho1, ho2, hb⟩; have HW1 := Aside0.mk ho1; have HW2 := Aside0.mk ho2; have HB1 := Aside0.mk hb; clear ho1 ho2 hb)
    | ((with_reducible refine gate_dst (N := 11) rfl ?_); refine box_event ?hg (N := 11) ?hd (cs := #[.string (⟨#[]⟩ : ByteArray), .slice none 0 0, .slice none 0 0]) (t := 64) ?hr ?_; (case hd => rfl); (case hg => rfl); (case hr => first | (go_simp; done) | (go_simp; rfl)); intro g11 hg11 w2 hbox hb; have BK := Aside0.mk hbox; have G11 := Aside0.mk hg11; have HB2 := Aside0.mk hb; clear hbox hg11 hb; have hcz0 : w2.cell? ⟨g11, 0, none⟩ = some (.string (⟨#[]⟩ : ByteArray)) := (blk_cell BK.out 0).trans rfl; have hcz1 : w2.cell? ⟨g11, 1, none⟩ = some (.slice none 0 0) := (blk_cell BK.out 1).trans rfl; have hcz2 : w2.cell? ⟨g11, 2, none⟩ = some (.slice none 0 0) := (blk_cell BK.out 2).trans rfl; have hfz0 := blk_frozen BK.out 0; have hfz1 := blk_frozen BK.out 1; have hfz2 := blk_frozen BK.out 2; obtain ⟨Ao1, co1, eo1⟩ := Kd.R_slice HW1.out; subst eo1; obtain ⟨Ao2, co2, eo2⟩ := Kd.R_slice HW2.out; subst eo2))
   have hb12 : Below w1.heap.size w1 (((w2.setCell ⟨g11, 0, none⟩ (.string m1)).setCell ⟨g11, 1, none⟩ (.slice Ao1 m2.length co1)).setCell ⟨g11, 2, none⟩ (.slice Ao2 m3.length co2)) := below_set (below_set (below_set HB2.out (Nat.le_of_eq G11.out.symm)) (Nat.le_of_eq G11.out.symm)) (Nat.le_of_eq G11.out.symm)
   have BK3 := Aside0.mk (blk_put (cs' := #[.string m1, .slice Ao1 m2.length co1, .slice Ao2 m3.length co2]) (blk_put (cs' := #[.string m1, .slice Ao1 m2.length co1, .slice none 0 0]) (blk_put (cs' := #[.string m1, .slice none 0 0, .slice none 0 0]) BK.out 0 (.string m1) rfl) 1 (.slice Ao1 m2.length co1) rfl) 2 (.slice Ao2 m3.length co2) rfl)
   have HB12 := Aside0.mk hb12
   clear hb12 BK HB2 hcz0 hcz1 hcz2 hfz0 hfz1 hfz2
   generalize (((w2.setCell ⟨g11, 0, none⟩ (.string m1)).setCell ⟨g11, 1, none⟩ (.slice Ao1 m2.length co1)).setCell ⟨g11, 2, none⟩ (.slice Ao2 m3.length co2)) = w3 at *
   have HB3 := Aside0.mk (below_step HB.out (below_step HB1.out HB12.out))
   have HN1 := Aside0.mk HB1.out.size
   have HN3 := Aside0.mk HB12.out.size
   have hN0 : w.heap.size ≤ wr.heap.size := HB.out.size
   have HV1 := Aside0.mk (Kd.R_mono (ok' := fun k_ => wr.heap.size ≤ k_ ∧ k_ < w1.heap.size) (Kd.R_below (Kd.R_bound HW1.out) HB12.out) (fun _ h_ => ⟨h_.2.1, h_.2.2.1⟩))
   have HV2 := Aside0.mk (Kd.R_mono (ok' := fun k_ => wr.heap.size ≤ k_ ∧ k_ < w1.heap.size) (Kd.R_below (Kd.R_bound HW2.out) HB12.out) (fun _ h_ => ⟨h_.2.1, h_.2.2.1⟩))
   have HO3 := Aside0.mk (Kd.S_below (Kd.S_old HO.out HB1.out) HB12.out)
   have HR3 := Aside0.mk (Kd.R_below (Kd.R_old HR.out HB1.out) HB12.out)
   have HLO := Aside0.mk (Kd.S_lt HO.out)
   have HLR := Aside0.mk (Kd.R_lt HR.out)
   have HKR := Aside0.mk HR.out.1
   have HKO := Aside0.mk (Kd.S_R HO.out).1
   clear HW1 HW2 HO HR
   by_cases h9 : m4 = 9
   ·have hb9 : (m4 == 9) = true := beq_iff_eq.2 h9
    have HRN2 := Aside0.mk (show al_run k a1 (l0.drop (i + 1)) (l2.drop (i + 1)) (i + 1) (out ++ [⟨m1, m2, m3⟩]) (ref ++ [(i : Int)]) = some (r1, r2, r3) from by have h_ := HRN1.out; unfold al_step at h_; rw [if_pos h9] at h_; exact h_)
    go_upto_region 12 with (first
     | ((with_reducible refine gate_dst (N := 56) rfl ?_); refine Kd.R_append (Kd.int .i64) (w0 := w) w.heap.size rfl (.tmp 53) (.tmp 55) 60 3 (.int .i64 0) 8 rfl Try.underlying60 info3 rfl (by decide) (by omega) u7 ref (i : Int) [.int .i64 (i : Int)] (fun k_ => (okR k_ ∧ k_ < wr.heap.size) ∨ w3.heap.size ≤ k_) (fun _ => False) rfl (by first | (go_simp; done) | (go_simp; rfl)) rfl (fun _ hk => hk.elim) (fun k_ hk => .inr hk) (Kd.R_mono HR3.out (fun _ hk => .inl hk)) HB3.out HB3.out.size (by have := HL.out; have := HMX.out; omega) ?_; intro v7 w4 ho hb hg hat; have HN4 := Aside0.mk hg.size; have HB4 := Aside0.mk hb; have HR4 := Aside0.mk (Kd.R_mono (ok' := fun k_ => (okR k_ ∧ k_ < wr.heap.size) ∨ (w1.heap.size ≤ k_ ∧ k_ < w4.heap.size)) (Kd.R_bound ho) (fun k_ hk => by have := HN3.out; rcases hk.1 with h_ | h_; exact .inl h_; exact .inr ⟨by omega, hk.2.2.1⟩)); have HO4 := Aside0.mk (Kd.S_grown HO3.out hg (fun k_ hk e_ => HD.out k_ hk.1 (HKR.out k_ e_.symm))); have HV1b := Aside0.mk (Kd.R_grown HV1.out hg (fun k_ hk e_ => by have := HLR.out k_ e_.symm; omega)); have HV2b := Aside0.mk (Kd.R_grown HV2.out hg (fun k_ hk e_ => by have := HLR.out k_ e_.symm; omega)); have BK4 := Aside0.mk (blk_grown BK3.out hg (fun e_ => by have := HLR.out g11 e_.symm; have := HN1.out; have := G11.out; omega)); have hcy0 : w4.cell? ⟨g11, 0, none⟩ = some (.string m1) := (blk_cell BK4.out 0).trans rfl; have hcy1 : w4.cell? ⟨g11, 1, none⟩ = some (.slice Ao1 m2.length co1) := (blk_cell BK4.out 1).trans rfl; have hcy2 : w4.cell? ⟨g11, 2, none⟩ = some (.slice Ao2 m3.length co2) := (blk_cell BK4.out 2).trans rfl; clear ho hb hg hat HB3 HR3 HO3 HV1 HV2 BK3))
    go_wp2_with (first
     | ((with_reducible refine gate_dst (N := 60) rfl ?_); refine Kd.S_append k64 (w0 := w) w.heap.size rfl (.tmp 57) (.tmp 59) 71 64 (.agg #[(.string ⟨#[]⟩), (.slice none 0 0), (.slice none 0 0)]) 64 rfl Try.underlying71 info64 rfl (by decide) (by omega) u6 out (⟨m1, m2, m3⟩ : S64) [.string m1, .slice Ao1 m2.length co1, .slice Ao2 m3.length co2] (fun k_ => (okO k_ ∧ k_ < wr.heap.size) ∨ (wr.heap.size ≤ k_ ∧ k_ < w1.heap.size) ∨ w4.heap.size ≤ k_) (fun k_ => wr.heap.size ≤ k_ ∧ k_ < w1.heap.size) rfl (by first | (go_simp; done) | (go_simp; rfl)) (k64_mkM _ _ _ (⟨m1, m2, m3⟩ : S64) (Kd.R_lower HV1b.out hN0) (Kd.R_lower HV2b.out hN0)) (fun k_ hk => ⟨.inr (.inl hk), fun e_ => by have := HLO.out k_ e_.symm; omega⟩) (fun k_ hk => .inr (.inr hk)) (Kd.S_mono HO4.out (fun k_ hk => ⟨.inl hk, fun h_ => by have := hk.2; omega⟩)) HB4.out HB4.out.size (by have := HL.out; have := HMX.out; omega) ?_; intro v6 w5 ho hb hg hat; have HO5 := Aside0.mk ho; have HB5 := Aside0.mk hb; have HR5 := Aside0.mk (Kd.R_grown HR4.out hg (fun k_ hk e_ => by have h1 := HLO.out k_ e_.symm; have h2 := HKO.out k_ e_.symm; rcases hk with hk | hk; exact HD.out k_ h2 hk.1; have := HN1.out; omega)); clear ho hb hg hat))
    go_roundg k1
    case measure => omega
    case rel =>
     have hw : wrap64 ((i : Int) + 1) = ((i + 1 : Nat) : Int) := by have := HL.out; have := HMX.out; unfold wrap64; omega
     exact ⟨i + 1, out ++ [⟨m1, m2, m3⟩], ref ++ [(i : Int)], _, _, (by first | rfl | exact congrArg (fun y => Value.int .i64 y) hw), ⟨by have := HI.out; omega⟩, ⟨by rw [List.length_append, List.length_singleton, HL.out.1], by have := HL.out; rw [List.length_append, List.length_singleton]; omega, by have := HILT.out; omega⟩, HRN2, HO5, HR5, ⟨fun k_ h1 h2 => by have := HN1.out; have := HN3.out; have := HN4.out; rcases h1 with h1 | h1 | h1 <;> rcases h2 with h2 | h2 <;> first | exact HD.out k_ h1.1 h2.1 | omega⟩, HB5⟩
   ·have hb9 : (m4 == 9) = false := beq_eq_false_iff_ne.2 h9
    have HRN2 := Aside0.mk (show al_run k a1 (l0.drop (i + 1)) (l2.drop (i + 1)) (i + 1) (out ++ [⟨m1, m2, m3⟩]) ref = some (r1, r2, r3) from by have h_ := HRN1.out; unfold al_step at h_; rw [if_neg h9] at h_; exact h_)
    have HN4 := Aside0.mk (Nat.le_refl w3.heap.size)
    have HB4 := HB3
    have HO4 := HO3
    have HV1b := HV1
    have HV2b := HV2
    have HR4 := Aside0.mk (Kd.R_mono (ok' := fun k_ => (okR k_ ∧ k_ < wr.heap.size) ∨ (w1.heap.size ≤ k_ ∧ k_ < w3.heap.size)) HR3.out (fun _ hk => .inl hk))
    have hcy0 : w3.cell? ⟨g11, 0, none⟩ = some (.string m1) := (blk_cell BK3.out 0).trans rfl
    have hcy1 : w3.cell? ⟨g11, 1, none⟩ = some (.slice Ao1 m2.length co1) := (blk_cell BK3.out 1).trans rfl
    have hcy2 : w3.cell? ⟨g11, 2, none⟩ = some (.slice Ao2 m3.length co2) := (blk_cell BK3.out 2).trans rfl
    go_wp2_with (first
     | ((with_reducible refine gate_dst (N := 60) rfl ?_); refine Kd.S_append k64 (w0 := w) w.heap.size rfl (.tmp 57) (.tmp 59) 71 64 (.agg #[(.string ⟨#[]⟩), (.slice none 0 0), (.slice none 0 0)]) 64 rfl Try.underlying71 info64 rfl (by decide) (by omega) u6 out (⟨m1, m2, m3⟩ : S64) [.string m1, .slice Ao1 m2.length co1, .slice Ao2 m3.length co2] (fun k_ => (okO k_ ∧ k_ < wr.heap.size) ∨ (wr.heap.size ≤ k_ ∧ k_ < w1.heap.size) ∨ w3.heap.size ≤ k_) (fun k_ => wr.heap.size ≤ k_ ∧ k_ < w1.heap.size) rfl (by first | (go_simp; done) | (go_simp; rfl)) (k64_mkM _ _ _ (⟨m1, m2, m3⟩ : S64) (Kd.R_lower HV1b.out hN0) (Kd.R_lower HV2b.out hN0)) (fun k_ hk => ⟨.inr (.inl hk), fun e_ => by have := HLO.out k_ e_.symm; omega⟩) (fun k_ hk => .inr (.inr hk)) (Kd.S_mono HO4.out (fun k_ hk => ⟨.inl hk, fun h_ => by have := hk.2; omega⟩)) HB4.out HB4.out.size (by have := HL.out; have := HMX.out; omega) ?_; intro v6 w5 ho hb hg hat; have HO5 := Aside0.mk ho; have HB5 := Aside0.mk hb; have HR5 := Aside0.mk (Kd.R_grown HR4.out hg (fun k_ hk e_ => by have h1 := HLO.out k_ e_.symm; have h2 := HKO.out k_ e_.symm; rcases hk with hk | hk; exact HD.out k_ h2 hk.1; have := HN1.out; omega)); clear ho hb hg hat))
    go_roundg k1
    case measure => omega
    case rel =>
     have hw : wrap64 ((i : Int) + 1) = ((i + 1 : Nat) : Int) := by have := HL.out; have := HMX.out; unfold wrap64; omega
     exact ⟨i + 1, out ++ [⟨m1, m2, m3⟩], ref, _, _, (by first | rfl | exact congrArg (fun y => Value.int .i64 y) hw), ⟨by have := HI.out; omega⟩, ⟨by rw [List.length_append, List.length_singleton, HL.out.1], by have := HL.out; omega, by have := HILT.out; omega⟩, HRN2, HO5, HR5, ⟨fun k_ h1 h2 => by have := HN1.out; have := HN3.out; have := HN4.out; rcases h1 with h1 | h1 | h1 <;> rcases h2 with h2 | h2 <;> first | exact HD.out k_ h1.1 h2.1 | omega⟩, HB5⟩
  ·have hlt : decide (i < l0.length) = false := decide_eq_false hi
   have hlt' : decide ((i : Int) < (l0.length : Int)) = false := decide_eq_false (by omega)
   have hend := HRN.out
   rw [List.drop_eq_nil_of_le (by omega), al_run] at hend
   simp only [Option.some.injEq, Prod.mk.injEq] at hend
   obtain ⟨rfl, rfl, rfl⟩ := hend
   clear hi
   go_wp2
   go_ret3
   exact ⟨_, _, (by first | rfl | (simp [go_sem]; done)), Kd.S_mono HO.out (fun k_ hk e_ => HD.out k_ hk (HR.out.1 k_ e_.symm)), Kd.R_mono HR.out (fun _ _ => trivial), HB.out⟩
set_option maxHeartbeats 8000000 in
set_option maxRecDepth 100000 in
theorem al_no (k : Nat) (A0 : Option Addr) (c0 : Nat) (l0 : List ByteArray) (a1 : Int) (A2 : Option Addr) (c2 : Nat) (l2 : List (List Int)) (t : Int) (w : World)
  (hchk : reed_Check.f (wrap64 (a1 + 1)) a1 = some t) (hno : ¬ (t = 0 ∧ l0.length = l2.length ∧ l0.length ≤ 32768)) :
  Calls Try.prog 54 #[.slice A0 l0.length c0, .int .i64 a1, .slice A2 l2.length c2] w fun e w' => ∃ v0_ v1_ : Value, e = .returned (.tuple #[v0_, v1_, .int .i64 1]) ∧ Kd.S k64 64 w' w.heap.size (fun k_ => some k_ ≠ (v1_ : Value).ownBlock) v0_ [] ∧ Kd.R (Kd.int .i64) 3 w' w.heap.size (fun _ => True) v1_ [] ∧ Below w.heap.size w w' := by
 have HCK := Aside0.mk hchk
 clear hchk
 go_enter Try.func54, Try.ntmps54
 by_cases h0 : t = 0
 ·have hb0 : (t != 0) = false := bne_eq_false_iff_eq.2 h0
  by_cases h1 : l0.length = l2.length
  ·have ht1 : ((l0.length : Int) != (l2.length : Int)) = false := bne_eq_false_iff_eq.2 (by omega)
   have h2 : ¬ l0.length ≤ 32768 := fun h => hno ⟨h0, h1, h⟩
   have ht2 : decide ((l0.length : Int) > 32768) = true := decide_eq_true (by omega)
   have ht3 : decide (32768 < (l0.length : Int)) = true := decide_eq_true (by omega)
   have ht4 : decide (32768 < l0.length) = true := decide_eq_true (by omega)
   clear h0 h1 hno
   go_wp2_with (first
    | (go_at_call 34; (with_reducible refine (reed_Check.calls (wrap64 (a1 + 1)) a1 t _ HCK.out).mono ?_); rintro e w1 ⟨rfl, ⟨nd, rfl⟩⟩))
   go_ret3
   exact ⟨_, _, (by first | rfl | (simp [go_sem]; done)), Kd.S_nil _ _ _ _ _, Kd.R_nil _ _ _ _ _, pw_below_drewN (Below.refl _ _) _⟩
  ·have ht1 : ((l0.length : Int) != (l2.length : Int)) = true := bne_iff_ne.2 (by omega)
   clear h0 h1 hno
   go_wp2_with (first
    | (go_at_call 34; (with_reducible refine (reed_Check.calls (wrap64 (a1 + 1)) a1 t _ HCK.out).mono ?_); rintro e w1 ⟨rfl, ⟨nd, rfl⟩⟩))
   go_ret3
   exact ⟨_, _, (by first | rfl | (simp [go_sem]; done)), Kd.S_nil _ _ _ _ _, Kd.R_nil _ _ _ _ _, pw_below_drewN (Below.refl _ _) _⟩
 ·have hb0 : (t != 0) = true := bne_iff_ne.2 h0
  clear h0 hno
  go_wp2_with (first
   | (go_at_call 34; (with_reducible refine (reed_Check.calls (wrap64 (a1 + 1)) a1 t _ HCK.out).mono ?_); rintro e w1 ⟨rfl, ⟨nd, rfl⟩⟩))
  go_ret3
  exact ⟨_, _, (by first | rfl | (simp [go_sem]; done)), Kd.S_nil _ _ _ _ _, Kd.R_nil _ _ _ _ _, pw_below_drewN (Below.refl _ _) _⟩
theorem mend_All.calls (k : Nat) (A0 : Option Addr) (c0 : Nat) (l0 : List ByteArray) (a1 : Int) (A2 : Option Addr) (c2 : Nat) (l2 : List (List Int)) (r1 : List S64) (r2 : List Int) (r3 : Int) (w : World) (hr0 : Kd.C Kd.string w A0 l0.length l0) (hc0 : l0.length ≤ c0) (hr2 : Kd.C (Kd.slice 3 (Kd.int .i64)) w A2 l2.length l2) (hc2 : l2.length ≤ c2) (h : mend_All.f k l0 a1 l2 = some (r1, r2, r3)) :
  Calls Try.prog 54 #[.slice A0 l0.length c0, .int .i64 a1, .slice A2 l2.length c2] w fun e w' => ∃ v0_ v1_ : Value, e = .returned (.tuple #[v0_, v1_, .int .i64 r3]) ∧ Kd.S k64 64 w' w.heap.size (fun k_ => some k_ ≠ (v1_ : Value).ownBlock) v0_ r1 ∧ Kd.R (Kd.int .i64) 3 w' w.heap.size (fun _ => True) v1_ r2 ∧ Below w.heap.size w w' := by
 unfold mend_All.f at h
 obtain ⟨t, ht, h⟩ := Option.bind_eq_some_iff.1 h
 split at h
 ·rename_i hc
  obtain ⟨rfl, h1, h2⟩ := hc
  exact al_go k A0 c0 l0 a1 A2 c2 l2 r1 r2 r3 w hr0 hc0 hr2 hc2 ht h1 h2 h
 ·rename_i hc
  have h' := Option.some.inj h
  simp only [Prod.mk.injEq] at h'
  obtain ⟨rfl, rfl, rfl⟩ := h'
  exact al_no k A0 c0 l0 a1 A2 c2 l2 t w ht hc
end Go.Proofs.Ytncoakokdajibaa.Q
