-- Printed by myprint.py (ours) over the kit's printer, out of the translation.
import Derived.Test.YtncoakokdajibaaReedApartK0
import Derived.Test.YtncoakokdajibaaReedApartF0
import Derived.Test.YtncoakokdajibaaReedApartQ1
import Derived.Test.YtncoakokdajibaaReedApartQ2
namespace Go.Proofs.Ytncoakokdajibaa.Q
open Go.RowKit Go.Proofs.YtncoakokdajibaaW.PrintWords Go.Proofs.YtncoakokdajibaaW.PrintLast Go.Proofs.YtncoakokdajibaaW.PrintMore
attribute [local go_sem] ArrW.ptrOf_slice max2_int min2_int max_two min_two max_three min_three max_four min_four   -- for this text's walks alone
set_option linter.unusedVariables false
set_option linter.unusedSimpArgs false

/-! ### foghornlaw19_ReedApart: function 5 -/
set_option maxHeartbeats 8000000 in
set_option maxRecDepth 100000 in
theorem foghornlaw19_ReedApart.calls (k : Nat) (a0 : ByteArray) (a1 : ByteArray) (a2 : Int) (A3 : Option Addr) (c3 : Nat) (l3 : List Int) (r : Bool) (w : World) (hr3 : Kd.C (Kd.int .u8) w A3 l3.length l3) (hc3 : l3.length ≤ c3) (h : foghornlaw19_ReedApart.f k a0 a1 a2 l3 = some r) (hq_ : r = true) :
  Calls Try.prog 5 #[.string a0, .string a1, .int .i64 a2, .slice A3 l3.length c3] w fun e w' => e = .returned (.bool r) ∧ Below w.heap.size w w' := by
 have HQ_ := Aside0.mk hq_
 clear hq_
 have HR3 := Aside0.mk hr3
 have HC3 := Aside0.mk hc3
 clear hr3 hc3
 have HB := Aside0.mk (Below.refl w.heap.size w)
 have H : ((foghornlaw19_works.f k).bind fun t218 => (if t218 = true then ((foghornlaw19_fit.f a0 a2).bind fun bt219 => ((foghornlaw19_fit.f a1 (wrap64 ((wrap64 (Int.tdiv bt219.2 2)) - 1))).bind fun bt221 => (if 0 ≤ (mn (bt219.1.size : Int) (bt221.1.size : Int)) then (if (mn (bt219.1.size : Int) (bt221.1.size : Int)) ≤ (bt219.1.size : Int) then (if (mn (bt219.1.size : Int) (bt221.1.size : Int)) ≤ (bt221.1.size : Int) then ((reed_Encode.f k (bt219.1.extract 0 ((mn (bt219.1.size : Int) (bt221.1.size : Int)) : Int).toNat) bt219.2).bind fun bt223 => ((reed_Encode.f k (bt221.1.extract 0 ((mn (bt219.1.size : Int) (bt221.1.size : Int)) : Int).toNat) bt219.2).bind fun bt225 => ((reed_Apart.f k bt223.1 bt225.1).bind fun bt227 => (if bt223.2 = 0 then (if bt225.2 = 0 then (if bt227.2 = 0 then (if (bt223.1.size : Int) = (wrap64 ((mn (bt219.1.size : Int) (bt221.1.size : Int)) + bt219.2)) then (if (bt219.1.extract 0 ((mn (bt219.1.size : Int) (bt221.1.size : Int)) : Int).toNat).toList = (bt221.1.extract 0 ((mn (bt219.1.size : Int) (bt221.1.size : Int)) : Int).toNat).toList then (foghornlaw19_ReedApart.j0 k bt219.2 l3 bt223.1 (bt227.1 != 0)) else (if bt227.1 < (wrap64 (bt219.2 + 1)) then (foghornlaw19_ReedApart.j0 k bt219.2 l3 bt223.1 true) else (foghornlaw19_ReedApart.j0 k bt219.2 l3 bt223.1 false))) else (foghornlaw19_ReedApart.j0 k bt219.2 l3 bt223.1 true)) else (foghornlaw19_ReedApart.j0 k bt219.2 l3 bt223.1 true)) else (foghornlaw19_ReedApart.j0 k bt219.2 l3 bt223.1 true)) else (foghornlaw19_ReedApart.j0 k bt219.2 l3 bt223.1 true))))) else (none)) else (none)) else (none)))) else (some false))) = some r := h
 clear h
 replace H := Option.bind_eq_some_iff.mp H
 obtain ⟨t218, A50, H⟩ := H
 replace H : (if t218 = true then ((foghornlaw19_fit.f a0 a2).bind fun bt219 => ((foghornlaw19_fit.f a1 (wrap64 ((wrap64 (Int.tdiv bt219.2 2)) - 1))).bind fun bt221 => (if 0 ≤ (mn (bt219.1.size : Int) (bt221.1.size : Int)) then (if (mn (bt219.1.size : Int) (bt221.1.size : Int)) ≤ (bt219.1.size : Int) then (if (mn (bt219.1.size : Int) (bt221.1.size : Int)) ≤ (bt221.1.size : Int) then ((reed_Encode.f k (bt219.1.extract 0 ((mn (bt219.1.size : Int) (bt221.1.size : Int)) : Int).toNat) bt219.2).bind fun bt223 => ((reed_Encode.f k (bt221.1.extract 0 ((mn (bt219.1.size : Int) (bt221.1.size : Int)) : Int).toNat) bt219.2).bind fun bt225 => ((reed_Apart.f k bt223.1 bt225.1).bind fun bt227 => (if bt223.2 = 0 then (if bt225.2 = 0 then (if bt227.2 = 0 then (if (bt223.1.size : Int) = (wrap64 ((mn (bt219.1.size : Int) (bt221.1.size : Int)) + bt219.2)) then (if (bt219.1.extract 0 ((mn (bt219.1.size : Int) (bt221.1.size : Int)) : Int).toNat).toList = (bt221.1.extract 0 ((mn (bt219.1.size : Int) (bt221.1.size : Int)) : Int).toNat).toList then (foghornlaw19_ReedApart.j0 k bt219.2 l3 bt223.1 (bt227.1 != 0)) else (if bt227.1 < (wrap64 (bt219.2 + 1)) then (foghornlaw19_ReedApart.j0 k bt219.2 l3 bt223.1 true) else (foghornlaw19_ReedApart.j0 k bt219.2 l3 bt223.1 false))) else (foghornlaw19_ReedApart.j0 k bt219.2 l3 bt223.1 true)) else (foghornlaw19_ReedApart.j0 k bt219.2 l3 bt223.1 true)) else (foghornlaw19_ReedApart.j0 k bt219.2 l3 bt223.1 true)) else (foghornlaw19_ReedApart.j0 k bt219.2 l3 bt223.1 true))))) else (none)) else (none)) else (none)))) else (some false)) = some r := H
 have A5 := Aside0.mk A50
 clear A50
 by_cases c6 : t218 = true
 ·subst c6
  have H1 : ((foghornlaw19_fit.f a0 a2).bind fun bt219 => ((foghornlaw19_fit.f a1 (wrap64 ((wrap64 (Int.tdiv bt219.2 2)) - 1))).bind fun bt221 => (if 0 ≤ (mn (bt219.1.size : Int) (bt221.1.size : Int)) then (if (mn (bt219.1.size : Int) (bt221.1.size : Int)) ≤ (bt219.1.size : Int) then (if (mn (bt219.1.size : Int) (bt221.1.size : Int)) ≤ (bt221.1.size : Int) then ((reed_Encode.f k (bt219.1.extract 0 ((mn (bt219.1.size : Int) (bt221.1.size : Int)) : Int).toNat) bt219.2).bind fun bt223 => ((reed_Encode.f k (bt221.1.extract 0 ((mn (bt219.1.size : Int) (bt221.1.size : Int)) : Int).toNat) bt219.2).bind fun bt225 => ((reed_Apart.f k bt223.1 bt225.1).bind fun bt227 => (if bt223.2 = 0 then (if bt225.2 = 0 then (if bt227.2 = 0 then (if (bt223.1.size : Int) = (wrap64 ((mn (bt219.1.size : Int) (bt221.1.size : Int)) + bt219.2)) then (if (bt219.1.extract 0 ((mn (bt219.1.size : Int) (bt221.1.size : Int)) : Int).toNat).toList = (bt221.1.extract 0 ((mn (bt219.1.size : Int) (bt221.1.size : Int)) : Int).toNat).toList then (foghornlaw19_ReedApart.j0 k bt219.2 l3 bt223.1 (bt227.1 != 0)) else (if bt227.1 < (wrap64 (bt219.2 + 1)) then (foghornlaw19_ReedApart.j0 k bt219.2 l3 bt223.1 true) else (foghornlaw19_ReedApart.j0 k bt219.2 l3 bt223.1 false))) else (foghornlaw19_ReedApart.j0 k bt219.2 l3 bt223.1 true)) else (foghornlaw19_ReedApart.j0 k bt219.2 l3 bt223.1 true)) else (foghornlaw19_ReedApart.j0 k bt219.2 l3 bt223.1 true)) else (foghornlaw19_ReedApart.j0 k bt219.2 l3 bt223.1 true))))) else (none)) else (none)) else (none)))) = some r := by rw [if_pos rfl] at H; exact H
  clear H
  have H := H1
  clear H1
  replace H := Option.bind_eq_some_iff.mp H
  obtain ⟨⟨t219, t220⟩, A70, H⟩ := H
  replace H : ((foghornlaw19_fit.f a1 (wrap64 ((wrap64 (Int.tdiv t220 2)) - 1))).bind fun bt221 => (if 0 ≤ (mn (t219.size : Int) (bt221.1.size : Int)) then (if (mn (t219.size : Int) (bt221.1.size : Int)) ≤ (t219.size : Int) then (if (mn (t219.size : Int) (bt221.1.size : Int)) ≤ (bt221.1.size : Int) then ((reed_Encode.f k (t219.extract 0 ((mn (t219.size : Int) (bt221.1.size : Int)) : Int).toNat) t220).bind fun bt223 => ((reed_Encode.f k (bt221.1.extract 0 ((mn (t219.size : Int) (bt221.1.size : Int)) : Int).toNat) t220).bind fun bt225 => ((reed_Apart.f k bt223.1 bt225.1).bind fun bt227 => (if bt223.2 = 0 then (if bt225.2 = 0 then (if bt227.2 = 0 then (if (bt223.1.size : Int) = (wrap64 ((mn (t219.size : Int) (bt221.1.size : Int)) + t220)) then (if (t219.extract 0 ((mn (t219.size : Int) (bt221.1.size : Int)) : Int).toNat).toList = (bt221.1.extract 0 ((mn (t219.size : Int) (bt221.1.size : Int)) : Int).toNat).toList then (foghornlaw19_ReedApart.j0 k t220 l3 bt223.1 (bt227.1 != 0)) else (if bt227.1 < (wrap64 (t220 + 1)) then (foghornlaw19_ReedApart.j0 k t220 l3 bt223.1 true) else (foghornlaw19_ReedApart.j0 k t220 l3 bt223.1 false))) else (foghornlaw19_ReedApart.j0 k t220 l3 bt223.1 true)) else (foghornlaw19_ReedApart.j0 k t220 l3 bt223.1 true)) else (foghornlaw19_ReedApart.j0 k t220 l3 bt223.1 true)) else (foghornlaw19_ReedApart.j0 k t220 l3 bt223.1 true))))) else (none)) else (none)) else (none))) = some r := H
  have A7 := Aside0.mk A70
  clear A70
  replace H := Option.bind_eq_some_iff.mp H
  obtain ⟨⟨t221, t222⟩, A80, H⟩ := H
  replace H : (if 0 ≤ (mn (t219.size : Int) (t221.size : Int)) then (if (mn (t219.size : Int) (t221.size : Int)) ≤ (t219.size : Int) then (if (mn (t219.size : Int) (t221.size : Int)) ≤ (t221.size : Int) then ((reed_Encode.f k (t219.extract 0 ((mn (t219.size : Int) (t221.size : Int)) : Int).toNat) t220).bind fun bt223 => ((reed_Encode.f k (t221.extract 0 ((mn (t219.size : Int) (t221.size : Int)) : Int).toNat) t220).bind fun bt225 => ((reed_Apart.f k bt223.1 bt225.1).bind fun bt227 => (if bt223.2 = 0 then (if bt225.2 = 0 then (if bt227.2 = 0 then (if (bt223.1.size : Int) = (wrap64 ((mn (t219.size : Int) (t221.size : Int)) + t220)) then (if (t219.extract 0 ((mn (t219.size : Int) (t221.size : Int)) : Int).toNat).toList = (t221.extract 0 ((mn (t219.size : Int) (t221.size : Int)) : Int).toNat).toList then (foghornlaw19_ReedApart.j0 k t220 l3 bt223.1 (bt227.1 != 0)) else (if bt227.1 < (wrap64 (t220 + 1)) then (foghornlaw19_ReedApart.j0 k t220 l3 bt223.1 true) else (foghornlaw19_ReedApart.j0 k t220 l3 bt223.1 false))) else (foghornlaw19_ReedApart.j0 k t220 l3 bt223.1 true)) else (foghornlaw19_ReedApart.j0 k t220 l3 bt223.1 true)) else (foghornlaw19_ReedApart.j0 k t220 l3 bt223.1 true)) else (foghornlaw19_ReedApart.j0 k t220 l3 bt223.1 true))))) else (none)) else (none)) else (none)) = some r := H
  have A8 := Aside0.mk A80
  clear A80
  obtain ⟨ji9, hji9⟩ : ∃ j_ : Int, (mn (t219.size : Int) (t221.size : Int)) = j_ := ⟨_, rfl⟩
  replace H : (if 0 ≤ (ji9) then (if (ji9) ≤ (t219.size : Int) then (if (ji9) ≤ (t221.size : Int) then ((reed_Encode.f k (t219.extract 0 ((ji9) : Int).toNat) t220).bind fun bt223 => ((reed_Encode.f k (t221.extract 0 ((ji9) : Int).toNat) t220).bind fun bt225 => ((reed_Apart.f k bt223.1 bt225.1).bind fun bt227 => (if bt223.2 = 0 then (if bt225.2 = 0 then (if bt227.2 = 0 then (if (bt223.1.size : Int) = (wrap64 ((ji9) + t220)) then (if (t219.extract 0 ((ji9) : Int).toNat).toList = (t221.extract 0 ((ji9) : Int).toNat).toList then (foghornlaw19_ReedApart.j0 k t220 l3 bt223.1 (bt227.1 != 0)) else (if bt227.1 < (wrap64 (t220 + 1)) then (foghornlaw19_ReedApart.j0 k t220 l3 bt223.1 true) else (foghornlaw19_ReedApart.j0 k t220 l3 bt223.1 false))) else (foghornlaw19_ReedApart.j0 k t220 l3 bt223.1 true)) else (foghornlaw19_ReedApart.j0 k t220 l3 bt223.1 true)) else (foghornlaw19_ReedApart.j0 k t220 l3 bt223.1 true)) else (foghornlaw19_ReedApart.j0 k t220 l3 bt223.1 true))))) else (none)) else (none)) else (none)) = some r := by first | (rw [hji9] at H; exact H) | (simp only [hji9] at H ⊢; exact H)
  (try rw [hji9] at A5)
  (try rw [hji9] at A7)
  (try rw [hji9] at A8)
  (try (have hji9l : 0 ≤ ji9 := by (rw [← hji9]; unfold mn; (repeat' split) <;> omega)))
  (try (have hji9m : 0 ≤ ji9 := by omega))
  have hji9_ : (if (t221.size : Int) < (t219.size : Int) then (t221.size : Int) else (t219.size : Int)) = ji9 := hji9
  (try have hji9n_ : (if t221.size < t219.size then (t221.size : Int) else (t219.size : Int)) = ji9 := by rw [← hji9_]; simp only [Int.ofNat_lt])
  by_cases c10 : 0 ≤ (ji9)
  ·rw [if_pos c10] at H
   have c10b0 := eq_true c10
   have c10b1 : decide (0 ≤ (ji9)) = true := decide_eq_true c10
   clear c10
   by_cases c11 : (ji9) ≤ (t219.size : Int)
   ·rw [if_pos c11] at H
    have c11b0 := eq_true c11
    have c11b1 : decide ((ji9) ≤ (t219.size : Int)) = true := decide_eq_true c11
    clear c11
    have c12b0 := eq_true (of_decide_eq_true (by first | (with_reducible assumption) | assumption) : 0 ≤ (ji9))
    by_cases c13 : (ji9) ≤ (t221.size : Int)
    ·rw [if_pos c13] at H
     have c13b0 := eq_true c13
     have c13b1 : decide ((ji9) ≤ (t221.size : Int)) = true := decide_eq_true c13
     clear c13
     replace H := Option.bind_eq_some_iff.mp H
     obtain ⟨⟨t223, t224⟩, A140, H⟩ := H
     replace H : ((reed_Encode.f k (t221.extract 0 ((ji9) : Int).toNat) t220).bind fun bt225 => ((reed_Apart.f k t223 bt225.1).bind fun bt227 => (if t224 = 0 then (if bt225.2 = 0 then (if bt227.2 = 0 then (if (t223.size : Int) = (wrap64 ((ji9) + t220)) then (if (t219.extract 0 ((ji9) : Int).toNat).toList = (t221.extract 0 ((ji9) : Int).toNat).toList then (foghornlaw19_ReedApart.j0 k t220 l3 t223 (bt227.1 != 0)) else (if bt227.1 < (wrap64 (t220 + 1)) then (foghornlaw19_ReedApart.j0 k t220 l3 t223 true) else (foghornlaw19_ReedApart.j0 k t220 l3 t223 false))) else (foghornlaw19_ReedApart.j0 k t220 l3 t223 true)) else (foghornlaw19_ReedApart.j0 k t220 l3 t223 true)) else (foghornlaw19_ReedApart.j0 k t220 l3 t223 true)) else (foghornlaw19_ReedApart.j0 k t220 l3 t223 true)))) = some r := H
     have A14 := Aside0.mk A140
     clear A140
     replace H := Option.bind_eq_some_iff.mp H
     obtain ⟨⟨t225, t226⟩, A150, H⟩ := H
     replace H : ((reed_Apart.f k t223 t225).bind fun bt227 => (if t224 = 0 then (if t226 = 0 then (if bt227.2 = 0 then (if (t223.size : Int) = (wrap64 ((ji9) + t220)) then (if (t219.extract 0 ((ji9) : Int).toNat).toList = (t221.extract 0 ((ji9) : Int).toNat).toList then (foghornlaw19_ReedApart.j0 k t220 l3 t223 (bt227.1 != 0)) else (if bt227.1 < (wrap64 (t220 + 1)) then (foghornlaw19_ReedApart.j0 k t220 l3 t223 true) else (foghornlaw19_ReedApart.j0 k t220 l3 t223 false))) else (foghornlaw19_ReedApart.j0 k t220 l3 t223 true)) else (foghornlaw19_ReedApart.j0 k t220 l3 t223 true)) else (foghornlaw19_ReedApart.j0 k t220 l3 t223 true)) else (foghornlaw19_ReedApart.j0 k t220 l3 t223 true))) = some r := H
     have A15 := Aside0.mk A150
     clear A150
     replace H := Option.bind_eq_some_iff.mp H
     obtain ⟨⟨t227, t228⟩, A160, H⟩ := H
     replace H : (if t224 = 0 then (if t226 = 0 then (if t228 = 0 then (if (t223.size : Int) = (wrap64 ((ji9) + t220)) then (if (t219.extract 0 ((ji9) : Int).toNat).toList = (t221.extract 0 ((ji9) : Int).toNat).toList then (foghornlaw19_ReedApart.j0 k t220 l3 t223 (t227 != 0)) else (if t227 < (wrap64 (t220 + 1)) then (foghornlaw19_ReedApart.j0 k t220 l3 t223 true) else (foghornlaw19_ReedApart.j0 k t220 l3 t223 false))) else (foghornlaw19_ReedApart.j0 k t220 l3 t223 true)) else (foghornlaw19_ReedApart.j0 k t220 l3 t223 true)) else (foghornlaw19_ReedApart.j0 k t220 l3 t223 true)) else (foghornlaw19_ReedApart.j0 k t220 l3 t223 true)) = some r := H
     have A16 := Aside0.mk A160
     clear A160
     have HC17 := Aside0.mk H
     clear H
     go_enter Try.func5, Try.ntmps5
     go_upto_region 11 with (first | ((with_reducible refine gate_callee (f := 17) rfl ?_); refine goesL_ (some 22) rfl rfl Try.func17 (by kernel_rfl) rfl #[] rfl (by (try simp only [List.map_toArray, List.map_cons, List.map_nil]); first | done | rfl | (simp only [List.length_drop, List.length_take]; rfl)) ?_; (with_reducible refine (foghornlaw19_works.calls k  true _ A5.out).mono ?_); rintro e w18 ⟨rfl, hb⟩; refine ⟨_, rfl, ?_⟩; have n0_ := Aside0.mk (below_step (by repeat (first | (with_reducible first | exact HB.out | apply below_alloc | apply pw_below_drewN | apply below_drew1) | exact HB.out)) hb); clear HB; have HB := n0_; clear n0_; (try clear hb); (try clear hb2); (try clear hk); (try clear hi)) | ((with_reducible refine gate_callee (f := 18) rfl ?_); refine goesL_ (some 27) rfl rfl Try.func18 (by kernel_rfl) rfl #[.string a0, .int .i64 a2] rfl (by (try simp only [List.map_toArray, List.map_cons, List.map_nil]); first | done | rfl | (simp only [List.length_drop, List.length_take]; rfl)) ?_; (with_reducible refine (foghornlaw19_fit.calls a0 a2 t219 t220 _ A7.out).mono ?_); rintro e w19 ⟨rfl, hb⟩; refine ⟨_, rfl, ?_⟩; have n0_ := Aside0.mk (below_step (by repeat (first | (with_reducible first | exact HB.out | apply below_alloc | apply pw_below_drewN | apply below_drew1) | exact HB.out)) hb); clear HB; have HB := n0_; clear n0_; (try clear hb); (try clear hb2); (try clear hk); (try clear hi)) | ((with_reducible refine gate_callee (f := 18) rfl ?_); refine goesL_ (some 35) rfl rfl Try.func18 (by kernel_rfl) rfl #[.string a1, .int .i64 (wrap64 ((wrap64 (Int.tdiv t220 2)) - 1))] rfl (by (try simp only [List.map_toArray, List.map_cons, List.map_nil]); first | done | rfl | (simp only [List.length_drop, List.length_take]; rfl)) ?_; (with_reducible refine (foghornlaw19_fit.calls a1 (wrap64 ((wrap64 (Int.tdiv t220 2)) - 1)) t221 t222 _ A8.out).mono ?_); rintro e w20 ⟨rfl, hb⟩; refine ⟨_, rfl, ?_⟩; have n0_ := Aside0.mk (below_step (by repeat (first | (with_reducible first | exact HB.out | apply below_alloc | apply pw_below_drewN | apply below_drew1) | exact HB.out)) hb); clear HB; have HB := n0_; clear n0_; (try clear hb); (try clear hb2); (try clear hk); (try clear hi)) | ((with_reducible refine gate_callee (f := 19) rfl ?_); refine goesL_ (some 52) rfl rfl Try.func19 (by kernel_rfl) rfl #[.string (t219.extract 0 ((ji9) : Int).toNat), .int .i64 t220] rfl (by (try simp only [List.map_toArray, List.map_cons, List.map_nil]); first | done | (simp only [hji9]; rfl) | rfl | (simp only [List.length_drop, List.length_take]; rfl)) ?_; (with_reducible refine (reed_Encode.calls k (t219.extract 0 ((ji9) : Int).toNat) t220 t223 t224 _ A14.out).mono ?_); rintro e w21 ⟨rfl, hb⟩; refine ⟨_, rfl, ?_⟩; have n0_ := Aside0.mk (below_step (by repeat (first | (with_reducible first | exact HB.out | apply below_alloc | apply pw_below_drewN | apply below_drew1) | exact HB.out)) hb); clear HB; have HB := n0_; clear n0_; (try clear hb); (try clear hb2); (try clear hk); (try clear hi)) | ((with_reducible refine gate_callee (f := 19) rfl ?_); refine goesL_ (some 58) rfl rfl Try.func19 (by kernel_rfl) rfl #[.string (t221.extract 0 ((ji9) : Int).toNat), .int .i64 t220] rfl (by (try simp only [List.map_toArray, List.map_cons, List.map_nil]); first | done | (simp only [hji9]; rfl) | rfl | (simp only [List.length_drop, List.length_take]; rfl)) ?_; (with_reducible refine (reed_Encode.calls k (t221.extract 0 ((ji9) : Int).toNat) t220 t225 t226 _ A15.out).mono ?_); rintro e w22 ⟨rfl, hb⟩; refine ⟨_, rfl, ?_⟩; have n0_ := Aside0.mk (below_step (by repeat (first | (with_reducible first | exact HB.out | apply below_alloc | apply pw_below_drewN | apply below_drew1) | exact HB.out)) hb); clear HB; have HB := n0_; clear n0_; (try clear hb); (try clear hb2); (try clear hk); (try clear hi)) | ((with_reducible refine gate_callee (f := 23) rfl ?_); refine goesL_ (some 64) rfl rfl Try.func23 (by kernel_rfl) rfl #[.string t223, .string t225] rfl (by (try simp only [List.map_toArray, List.map_cons, List.map_nil]); first | done | rfl | (simp only [List.length_drop, List.length_take]; rfl)) ?_; (with_reducible refine (reed_Apart.calls k t223 t225 t227 t228 _ A16.out).mono ?_); rintro e w' ⟨rfl, ⟨nd, rfl⟩⟩; refine ⟨_, rfl, ?_⟩))
     (try simp only [Act.put, List.setIfInBounds_toArray, List.set_cons_zero, List.set_cons_succ])
     go_cut [104] (fun v104 wc => ∃ (kq : Nat) (x104_16 : Bool), v104 = .bool x104_16 ∧ Aside0 (foghornlaw19_ReedApart.j0 kq t220 l3 t223 x104_16 = some r) ∧ Aside0 (kq ≤ k) ∧ Aside0 (Below w.heap.size w wc))
     case first =>
      have H := HC17.out
      clear HC17
      by_cases c23 : t224 = 0
      ·rw [if_pos c23] at H
       have c23b0 : (t224 == 0) = true := beq_iff_eq.mpr c23
       have c23b1 : (t224 != 0) = false := bne_eq_false_iff_eq.mpr c23
       clear c23
       (first | rw [c23b0] | (simp only [i64_w, i32_w]; rw [c23b0]) | skip)
       by_cases c24 : t226 = 0
       ·rw [if_pos c24] at H
        have c24b0 : (t226 == 0) = true := beq_iff_eq.mpr c24
        have c24b1 : (t226 != 0) = false := bne_eq_false_iff_eq.mpr c24
        clear c24
        by_cases c25 : t228 = 0
        ·rw [if_pos c25] at H
         have c25b0 : (t228 == 0) = true := beq_iff_eq.mpr c25
         have c25b1 : (t228 != 0) = false := bne_eq_false_iff_eq.mpr c25
         clear c25
         by_cases c26 : (t223.size : Int) = (wrap64 ((ji9) + t220))
         ·rw [if_pos c26] at H
          have c26b0 : ((t223.size : Int) == (wrap64 ((ji9) + t220))) = true := beq_iff_eq.mpr c26
          have c26b1 : ((t223.size : Int) != (wrap64 ((ji9) + t220))) = false := bne_eq_false_iff_eq.mpr c26
          clear c26
          by_cases c27 : (t219.extract 0 ((ji9) : Int).toNat).toList = (t221.extract 0 ((ji9) : Int).toNat).toList
          ·rw [if_pos c27] at H
           have c27b0 : ((t219.extract 0 ((ji9) : Int).toNat).toList == (t221.extract 0 ((ji9) : Int).toNat).toList) = true := beq_iff_eq.mpr c27
           have c27b1 : ((t219.extract 0 ((ji9) : Int).toNat).toList != (t221.extract 0 ((ji9) : Int).toNat).toList) = false := bne_eq_false_iff_eq.mpr c27
           clear c27
           as_aux_lemma =>
            have H' := Aside0.mk H
            clear H
            go_wp2
            go_meet
            case rel => exact ⟨_, ((t227 != 0)), (by first | rfl | (simp; done) | (simp [*]; done)), H', ⟨by first | omega | exact Nat.le_refl _⟩, ⟨by repeat (first | (with_reducible first | exact HB.out | apply below_alloc | apply pw_below_drewN | apply below_drew1) | exact HB.out)⟩⟩
          ·rw [if_neg c27] at H
           have c27b0 : ((t219.extract 0 ((ji9) : Int).toNat).toList == (t221.extract 0 ((ji9) : Int).toNat).toList) = false := beq_eq_false_iff_ne.mpr c27
           have c27b1 : ((t219.extract 0 ((ji9) : Int).toNat).toList != (t221.extract 0 ((ji9) : Int).toNat).toList) = true := bne_iff_ne.mpr c27
           by_cases c28 : t227 < (wrap64 (t220 + 1))
           ·rw [if_pos c28] at H
            have c28b0 : decide (t227 < (wrap64 (t220 + 1))) = true := decide_eq_true c28
            clear c28
            as_aux_lemma =>
             have H' := Aside0.mk H
             clear H
             go_wp2
             go_meet
             case rel => exact ⟨_, (true), (by first | rfl | (simp; done) | (simp [*]; done)), H', ⟨by first | omega | exact Nat.le_refl _⟩, ⟨by repeat (first | (with_reducible first | exact HB.out | apply below_alloc | apply pw_below_drewN | apply below_drew1) | exact HB.out)⟩⟩
           ·rw [if_neg c28] at H
            have c28b0 : decide (t227 < (wrap64 (t220 + 1))) = false := decide_eq_false c28
            clear c28
            as_aux_lemma =>
             have H' := Aside0.mk H
             clear H
             go_wp2
             go_meet
             case rel => exact ⟨_, (false), (by first | rfl | (simp; done) | (simp [*]; done)), H', ⟨by first | omega | exact Nat.le_refl _⟩, ⟨by repeat (first | (with_reducible first | exact HB.out | apply below_alloc | apply pw_below_drewN | apply below_drew1) | exact HB.out)⟩⟩
         ·rw [if_neg c26] at H
          have c26b0 : ((t223.size : Int) == (wrap64 ((ji9) + t220))) = false := beq_eq_false_iff_ne.mpr c26
          have c26b1 : ((t223.size : Int) != (wrap64 ((ji9) + t220))) = true := bne_iff_ne.mpr c26
          as_aux_lemma =>
           have H' := Aside0.mk H
           clear H
           go_wp2
           go_meet
           case rel => exact ⟨_, (true), (by first | rfl | (simp; done) | (simp [*]; done)), H', ⟨by first | omega | exact Nat.le_refl _⟩, ⟨by repeat (first | (with_reducible first | exact HB.out | apply below_alloc | apply pw_below_drewN | apply below_drew1) | exact HB.out)⟩⟩
        ·rw [if_neg c25] at H
         have c25b0 : (t228 == 0) = false := beq_eq_false_iff_ne.mpr c25
         have c25b1 : (t228 != 0) = true := bne_iff_ne.mpr c25
         as_aux_lemma =>
          have H' := Aside0.mk H
          clear H
          go_wp2
          go_meet
          case rel => exact ⟨_, (true), (by first | rfl | (simp; done) | (simp [*]; done)), H', ⟨by first | omega | exact Nat.le_refl _⟩, ⟨by repeat (first | (with_reducible first | exact HB.out | apply below_alloc | apply pw_below_drewN | apply below_drew1) | exact HB.out)⟩⟩
       ·rw [if_neg c24] at H
        have c24b0 : (t226 == 0) = false := beq_eq_false_iff_ne.mpr c24
        have c24b1 : (t226 != 0) = true := bne_iff_ne.mpr c24
        as_aux_lemma =>
         have H' := Aside0.mk H
         clear H
         go_wp2
         go_meet
         case rel => exact ⟨_, (true), (by first | rfl | (simp; done) | (simp [*]; done)), H', ⟨by first | omega | exact Nat.le_refl _⟩, ⟨by repeat (first | (with_reducible first | exact HB.out | apply below_alloc | apply pw_below_drewN | apply below_drew1) | exact HB.out)⟩⟩
      ·rw [if_neg c23] at H
       have c23b0 : (t224 == 0) = false := beq_eq_false_iff_ne.mpr c23
       have c23b1 : (t224 != 0) = true := bne_iff_ne.mpr c23
       (first | rw [c23b0] | (simp only [i64_w, i32_w]; rw [c23b0]) | skip)
       as_aux_lemma =>
        have H' := Aside0.mk H
        clear H
        go_wp2
        go_meet
        case rel => exact ⟨_, (true), (by first | rfl | (simp; done) | (simp [*]; done)), H', ⟨by first | omega | exact Nat.le_refl _⟩, ⟨by repeat (first | (with_reducible first | exact HB.out | apply below_alloc | apply pw_below_drewN | apply below_drew1) | exact HB.out)⟩⟩
     case rest =>
      clear HC17
      try clear c1
      try clear c2
      try clear p2
      try clear c3
      try clear c5
      try clear c6
      try clear p6
      try clear c10
      try clear c10b0
      try clear c10b1
      try clear c11
      try clear c11b0
      try clear c11b1
      try clear c12
      try clear c12b0
      try clear c13
      try clear c13b0
      try clear c13b1
      try clear c17
      try clear c18
      try clear c19
      try clear c23
      try clear c23b0
      try clear c23b1
      try clear c24
      try clear c24b0
      try clear c24b1
      try clear c25
      try clear c25b0
      try clear c25b1
      try clear c26
      try clear c26b0
      try clear c26b1
      try clear c27
      try clear c27b0
      try clear c27b1
      try clear c28
      try clear c28b0
      obtain ⟨kq, x104_16, rfl, HA, HJ16, HB⟩ := hcut
      cases kq with
      | zero => exact absurd HA.out (by simp [foghornlaw19_ReedApart.j0])
      | succ kj16 =>
       have H := HA.out
       clear HA
       simp only [foghornlaw19_ReedApart.j0] at H
       by_cases c29 : x104_16 = true
       ·subst c29
        have H1 : (some false) = some r := by rw [if_pos rfl] at H; exact H
        clear H
        have H := H1
        clear H1
        as_aux_lemma =>
         exact absurd ((Option.some.inj H).trans HQ_.out) (by decide)
       ·replace c29 := Bool.eq_false_iff.mpr c29
        subst c29
        have H1 : (if t223.size ≤ 9223372036854775807 then (foghornlaw19_ReedApart.l0 kj16 t220 l3 t223 (bytesOf t223) 0 0) else (none)) = some r := by rw [if_neg (show ¬ (false = true) by decide)] at H; exact H
        clear H
        have H := H1
        clear H1
        by_cases c30 : t223.size ≤ 9223372036854775807
        ·rw [if_pos c30] at H
         have c30b0 := eq_true c30
         have c30b1 : decide (t223.size ≤ 9223372036854775807) = true := decide_eq_true c30
         try have c30b2 : (9223372036854775807 < t223.size) = False := eq_false (Nat.not_lt.2 c30)
         clear c30
         obtain ⟨y229, hy229⟩ : ∃ y_ : List Int, y_ = (bytesOf t223) := ⟨_, rfl⟩
         replace H : (foghornlaw19_ReedApart.l0 kj16 t220 l3 t223 y229 0 0) = some r := by first | (rw [hy229]; with_reducible exact H) | (have H2_ := (Option.bind_some _ _).symm.trans H; rw [hy229]; with_reducible exact H2_) | (have H2_ := (Option.bind_some _ _).symm.trans H; with_reducible exact H2_) | with_reducible exact H | (rw [hy229]; exact H) | exact H
         have Ny229 := Aside0.mk hy229
         clear hy229
         have H' := Aside0.mk H
         clear H
         go_wp2_with (first | ((with_reducible refine gate_dst (N := 106) rfl ?_); (try (refine gate_guard (by rfl) ?_; dsimp only)); refine ConvW.Q_conv rfl (N := 106) rfl 9 29 5 (.tmp 105) rfl Try.underlying9 Try.underlying29 Try.underlying5 _ (s := t223) rfl (ok := fun _ => True) trivial (Below.refl _ _) (Nat.le_refl _) (of_decide_eq_true (by first | (with_reducible assumption) | assumption)) ?_; intro v230 w31 ho32 hb hg_ hnew_; clear hg_ hnew_; (first | rw [← Ny229.out] at ho32 | (simp only [Int.reduceToNat] at ho32; rw [← Ny229.out] at ho32)); have n0_ := Aside0.mk (Kd.Q_lower ho32 (below_size (by repeat (first | (with_reducible first | exact HB.out | apply below_alloc | apply pw_below_drewN | apply below_drew1) | exact HB.out)))); have n1_ := Aside0.mk (below_step (by repeat (first | (with_reducible first | exact HB.out | apply below_alloc | apply pw_below_drewN | apply below_drew1) | exact HB.out)) hb); clear HB; have HO231 := n0_; have HB := n1_; clear n0_ n1_; clear hb ho32))
         go_loopg [17, 18] kj16 (fun kq v17 v18 w' => ∃ (x16_2 : List Int) (x17_2 : Int) (x18_2 : Int), v17 = .int .i64 x17_2 ∧ v18 = .int .i64 x18_2 ∧ Aside0 (foghornlaw19_ReedApart.l0 kq t220 l3 t223 x16_2 x17_2 x18_2 = some r) ∧ Aside0 (kq ≤ kj16) ∧ Aside0 (Kd.Q (Kd.int .u8) 5 w' w.heap.size (fun _ => True) v230 x16_2) ∧ Aside0 (Below w.heap.size w w'))
         case atStart => exact ⟨(y229), (0), (0), (by first | rfl | (simp; done) | (simp [*]; done)), (by first | rfl | (simp; done) | (simp [*]; done)), H', ⟨Nat.le_refl _⟩, ⟨by (with_reducible repeat (first | apply Kd.Q_alloc | apply Kd.Q_drewN | apply Kd.Q_drew)); exact HO231.out⟩, ⟨by repeat (first | (with_reducible first | exact HB.out | apply below_alloc | apply pw_below_drewN | apply below_drew1) | exact HB.out)⟩⟩
         case round =>
          clear H'
          try clear c1
          try clear c2
          try clear p2
          try clear c3
          try clear c5
          try clear c6
          try clear p6
          try clear c10
          try clear c10b0
          try clear c10b1
          try clear c11
          try clear c11b0
          try clear c11b1
          try clear c12
          try clear c12b0
          try clear c13
          try clear c13b0
          try clear c13b1
          try clear c17
          try clear c18
          try clear c19
          try clear c23
          try clear c23b0
          try clear c23b1
          try clear c24
          try clear c24b0
          try clear c24b1
          try clear c25
          try clear c25b0
          try clear c25b1
          try clear c26
          try clear c26b0
          try clear c26b1
          try clear c27
          try clear c27b0
          try clear c27b1
          try clear c28
          try clear c28b0
          try clear c29
          try clear c30
          try clear c30b0
          try clear c30b1
          try clear c30b2
          try clear p2
          try clear p6
          obtain ⟨x16_2, x17_2, x18_2, rfl, rfl, HA, HK2, HO_16, HB⟩ := hrel
          cases gk with
          | zero => exact absurd HA.out (by simp [foghornlaw19_ReedApart.l0])
          | succ k2 =>
           have H := HA.out
           clear HA
           simp only [foghornlaw19_ReedApart.l0] at H
           have HC33 := Aside0.mk H
           clear H
           go_upto_region 16 with (fail)
           go_cut [116] (fun v116 wc => ∃ (kq : Nat) (x116_32 : Bool), v116 = .bool x116_32 ∧ Aside0 (foghornlaw19_ReedApart.j2 kq t220 l3 t223 x16_2 x17_2 x18_2 x116_32 = some r) ∧ Aside0 (kq ≤ k2) ∧ Aside0 (Kd.Q (Kd.int .u8) 5 wc w.heap.size (fun _ => True) v230 x16_2) ∧ Aside0 (Below w.heap.size w wc))
           case first =>
            have H := HC33.out
            clear HC33
            by_cases c34 : (wrap64 (x18_2 + 1)) < (l3.length : Int)
            ·rw [if_pos c34] at H
             have c34b0 : decide ((wrap64 (x18_2 + 1)) < (l3.length : Int)) = true := decide_eq_true c34
             clear c34
             (first | rw [c34b0] | (simp only [i64_w, i32_w]; rw [c34b0]) | skip)
             as_aux_lemma =>
              have H' := Aside0.mk H
              clear H
              go_wp2
              go_meet
              case rel => exact ⟨_, (decide (x17_2 < t220)), (by first | rfl | (simp; done) | (simp [*]; done)), H', ⟨by have := HJ16.out; have := HK2.out; first | omega | exact Nat.le_refl _⟩, ⟨by (with_reducible repeat (first | apply Kd.Q_alloc | apply Kd.Q_drewN | apply Kd.Q_drew)); exact HO_16.out⟩, ⟨by repeat (first | (with_reducible first | exact HB.out | apply below_alloc | apply pw_below_drewN | apply below_drew1) | exact HB.out)⟩⟩
            ·rw [if_neg c34] at H
             have c34b0 : decide ((wrap64 (x18_2 + 1)) < (l3.length : Int)) = false := decide_eq_false c34
             clear c34
             (first | rw [c34b0] | (simp only [i64_w, i32_w]; rw [c34b0]) | skip)
             as_aux_lemma =>
              have H' := Aside0.mk H
              clear H
              go_wp2
              go_meet
              case rel => exact ⟨_, (false), (by first | rfl | (simp; done) | (simp [*]; done)), H', ⟨by have := HJ16.out; have := HK2.out; first | omega | exact Nat.le_refl _⟩, ⟨by (with_reducible repeat (first | apply Kd.Q_alloc | apply Kd.Q_drewN | apply Kd.Q_drew)); exact HO_16.out⟩, ⟨by repeat (first | (with_reducible first | exact HB.out | apply below_alloc | apply pw_below_drewN | apply below_drew1) | exact HB.out)⟩⟩
           case rest =>
            clear HC33
            try clear c1
            try clear c2
            try clear p2
            try clear c3
            try clear c5
            try clear c6
            try clear p6
            try clear c10
            try clear c10b0
            try clear c10b1
            try clear c11
            try clear c11b0
            try clear c11b1
            try clear c12
            try clear c12b0
            try clear c13
            try clear c13b0
            try clear c13b1
            try clear c17
            try clear c18
            try clear c19
            try clear c23
            try clear c23b0
            try clear c23b1
            try clear c24
            try clear c24b0
            try clear c24b1
            try clear c25
            try clear c25b0
            try clear c25b1
            try clear c26
            try clear c26b0
            try clear c26b1
            try clear c27
            try clear c27b0
            try clear c27b1
            try clear c28
            try clear c28b0
            try clear c29
            try clear c30
            try clear c30b0
            try clear c30b1
            try clear c30b2
            try clear c34
            try clear c34b0
            try clear p2
            try clear p6
            obtain ⟨kq, x116_32, rfl, HA, HJ32, HO_16, HB⟩ := hcut
            cases kq with
            | zero => exact absurd HA.out (by simp [foghornlaw19_ReedApart.j2])
            | succ kj32 =>
             have H := HA.out
             clear HA
             simp only [foghornlaw19_ReedApart.j2] at H
             by_cases c35 : x116_32 = true
             ·subst c35
              have H1 : (if 0 ≤ x18_2 then (if x18_2 < (l3.length : Int) then (if (x16_2.length : Int) = 0 then (none) else (if 0 ≤ (Int.tmod (wrap64 (rd l3 x18_2)) (x16_2.length : Int)) then (if (Int.tmod (wrap64 (rd l3 x18_2)) (x16_2.length : Int)) < (x16_2.length : Int) then (if (Int.tmod (wrap64 (rd l3 x18_2)) (x16_2.length : Int)) < (t223.size : Int) then (if (rd x16_2 (Int.tmod (wrap64 (rd l3 x18_2)) (x16_2.length : Int))) = (bt t223 (Int.tmod (wrap64 (rd l3 x18_2)) (x16_2.length : Int))) then (if 0 ≤ (wrap64 (x18_2 + 1)) then (if (wrap64 (x18_2 + 1)) < (l3.length : Int) then (if (rd l3 (wrap64 (x18_2 + 1))) = 0 then (foghornlaw19_ReedApart.l0 kj32 t220 l3 t223 x16_2 x17_2 (wrap64 (x18_2 + 2))) else (foghornlaw19_ReedApart.l0 kj32 t220 l3 t223 (x16_2.set ((Int.tmod (wrap64 (rd l3 x18_2)) (x16_2.length : Int)) : Int).toNat (Go.bits .xor .u8 (rd x16_2 (Int.tmod (wrap64 (rd l3 x18_2)) (x16_2.length : Int))) (rd l3 (wrap64 (x18_2 + 1))))) (wrap64 (x17_2 + 1)) (wrap64 (x18_2 + 2)))) else (none)) else (none)) else (foghornlaw19_ReedApart.l0 kj32 t220 l3 t223 x16_2 x17_2 (wrap64 (x18_2 + 2)))) else (none)) else (none)) else (none))) else (none)) else (none)) = some r := by rw [if_pos rfl] at H; exact H
              clear H
              have H := H1
              clear H1
              by_cases c36 : 0 ≤ x18_2
              ·rw [if_pos c36] at H
               have c36b0 : decide (0 ≤ x18_2) = true := decide_eq_true c36
               clear c36
               by_cases c37 : x18_2 < (l3.length : Int)
               ·rw [if_pos c37] at H
                have c37b0 : decide (x18_2 < (l3.length : Int)) = true := decide_eq_true c37
                clear c37
                by_cases c38 : (x16_2.length : Int) = 0
                ·rw [if_pos c38] at H
                 exact absurd H (by simp)
                ·rw [if_neg c38] at H
                 have c38b0 : ((x16_2.length : Int) == 0) = false := beq_eq_false_iff_ne.mpr c38
                 have c38b1 : ((x16_2.length : Int) != 0) = true := bne_iff_ne.mpr c38
                 have c38b2 : ¬ (x16_2 = []) := fun h_ => c38 (by rw [h_]; rfl)
                 obtain ⟨ji39, hji39⟩ : ∃ j_ : Int, (Int.tmod (wrap64 (rd l3 x18_2)) (x16_2.length : Int)) = j_ := ⟨_, rfl⟩
                 replace H : (if 0 ≤ (ji39) then (if (ji39) < (x16_2.length : Int) then (if (ji39) < (t223.size : Int) then (if (rd x16_2 (ji39)) = (bt t223 (ji39)) then (if 0 ≤ (wrap64 (x18_2 + 1)) then (if (wrap64 (x18_2 + 1)) < (l3.length : Int) then (if (rd l3 (wrap64 (x18_2 + 1))) = 0 then (foghornlaw19_ReedApart.l0 kj32 t220 l3 t223 x16_2 x17_2 (wrap64 (x18_2 + 2))) else (foghornlaw19_ReedApart.l0 kj32 t220 l3 t223 (x16_2.set ((ji39) : Int).toNat (Go.bits .xor .u8 (rd x16_2 (ji39)) (rd l3 (wrap64 (x18_2 + 1))))) (wrap64 (x17_2 + 1)) (wrap64 (x18_2 + 2)))) else (none)) else (none)) else (foghornlaw19_ReedApart.l0 kj32 t220 l3 t223 x16_2 x17_2 (wrap64 (x18_2 + 2)))) else (none)) else (none)) else (none)) = some r := by first | (rw [hji39] at H; exact H) | (simp only [hji39] at H ⊢; exact H)
                 by_cases c40 : 0 ≤ (ji39)
                 ·rw [if_pos c40] at H
                  have c40b0 : decide (0 ≤ (ji39)) = true := decide_eq_true c40
                  clear c40
                  by_cases c41 : (ji39) < (x16_2.length : Int)
                  ·rw [if_pos c41] at H
                   have c41b0 : decide ((ji39) < (x16_2.length : Int)) = true := decide_eq_true c41
                   clear c41
                   by_cases c42 : (ji39) < (t223.size : Int)
                   ·rw [if_pos c42] at H
                    have c42b0 : decide ((ji39) < (t223.size : Int)) = true := decide_eq_true c42
                    clear c42
                    by_cases c44 : (rd x16_2 (ji39)) = (bt t223 (ji39))
                    ·rw [if_pos c44] at H
                     have c44b0 : ((rd x16_2 (ji39)) == (bt t223 (ji39))) = true := beq_iff_eq.mpr c44
                     have c44b1 : ((rd x16_2 (ji39)) != (bt t223 (ji39))) = false := bne_eq_false_iff_eq.mpr c44
                     clear c44
                     obtain ⟨ji45, hji45⟩ : ∃ j_ : Int, (wrap64 (x18_2 + 1)) = j_ := ⟨_, rfl⟩
                     replace H : (if 0 ≤ (ji45) then (if (ji45) < (l3.length : Int) then (if (rd l3 (ji45)) = 0 then (foghornlaw19_ReedApart.l0 kj32 t220 l3 t223 x16_2 x17_2 (wrap64 (x18_2 + 2))) else (foghornlaw19_ReedApart.l0 kj32 t220 l3 t223 (x16_2.set ((ji39) : Int).toNat (Go.bits .xor .u8 (rd x16_2 (ji39)) (rd l3 (ji45)))) (wrap64 (x17_2 + 1)) (wrap64 (x18_2 + 2)))) else (none)) else (none)) = some r := by first | (rw [hji45] at H; exact H) | (simp only [hji45] at H ⊢; exact H)
                     have hji45w : (IntKind.i64.wrap (x18_2 + 1)) = ji45 := (i64_w _).trans hji45
                     by_cases c46 : 0 ≤ (ji45)
                     ·rw [if_pos c46] at H
                      have c46b0 : decide (0 ≤ (ji45)) = true := decide_eq_true c46
                      clear c46
                      by_cases c47 : (ji45) < (l3.length : Int)
                      ·rw [if_pos c47] at H
                       have c47b0 : decide ((ji45) < (l3.length : Int)) = true := decide_eq_true c47
                       clear c47
                       by_cases c48 : (rd l3 (ji45)) = 0
                       ·rw [if_pos c48] at H
                        have c48b0 : ((rd l3 (ji45)) == 0) = true := beq_iff_eq.mpr c48
                        have c48b1 : ((rd l3 (ji45)) != 0) = false := bne_eq_false_iff_eq.mpr c48
                        clear c48
                        as_aux_lemma =>
                         have H' := Aside0.mk H
                         clear H
                         have p232 : 0 ≤ (x18_2 : Int) := of_decide_eq_true (by first | (with_reducible assumption) | assumption)
                         have q232 : x18_2 < (l3.length : Int) := of_decide_eq_true (by first | (with_reducible assumption) | assumption)
                         obtain ⟨ad232, e232, hx232_0⟩ := Kd.at_int HR3.out x18_2 p232 q232
                         cases e232
                         replace hx232_0 := (HB.out.cell (World.block_lt_of_cell? w _ hx232_0)).trans hx232_0
                         replace p232 := eq_true p232
                         replace q232 := eq_true q232
                         obtain ⟨Ao49, co49, eo49, _⟩ := Kd.Q_slice HO_16.out
                         subst eo49
                         try go_wp2
                         have n0_ := Aside0.mk (Kd.Q_drew HO_16.out)
                         have n1_ := Aside0.mk (below_drew1 HB.out)
                         clear HO_16
                         clear HB
                         have HO_16 := n0_
                         have HB := n1_
                         clear n0_ n1_
                         have p233 : 0 ≤ ((ji39) : Int) := of_decide_eq_true (by first | (with_reducible assumption) | assumption)
                         have q233 : (ji39) < (x16_2.length : Int) := of_decide_eq_true (by first | (with_reducible assumption) | assumption)
                         obtain ⟨ad233, e233, hx233_0⟩ := Kd.at_int (Kd.Q_reads' HO_16.out).2.2 (ji39) p233 q233
                         cases e233
                         replace p233 := eq_true p233
                         replace q233 := eq_true q233
                         have p43 : 0 ≤ ((ji39) : Int) := of_decide_eq_true (by first | (with_reducible assumption) | assumption)
                         have q43 : (ji39) < (t223.size : Int) := of_decide_eq_true (by first | (with_reducible assumption) | assumption)
                         have hx43 := bt_at t223 (ji39)
                         replace p43 := eq_true p43
                         replace q43 := eq_true q43
                         have p234 : 0 ≤ ((ji45) : Int) := of_decide_eq_true (by first | (with_reducible assumption) | assumption)
                         have q234 : (ji45) < (l3.length : Int) := of_decide_eq_true (by first | (with_reducible assumption) | assumption)
                         obtain ⟨ad234, e234, hx234_0⟩ := Kd.at_int HR3.out (ji45) p234 q234
                         have hw234_0 := hx234_0
                         obtain rfl : ad232 = ad234 := (by injection e234)
                         replace hx234_0 := (HB.out.cell (World.block_lt_of_cell? w _ hx234_0)).trans hx234_0
                         replace p234 := eq_true p234
                         replace q234 := eq_true q234
                         refine start_ (n := 16) (S := fun w' => w'.cell? (ad233.add ((ji39)).toNat) = some (.int .u8 (rd x16_2 (ji39))) ∧ w'.cell? (ad232.add ((ji45)).toNat) = some (.int .u8 (rd l3 (ji45)))) (ds := []) #[false, false, false, false, false, false, false, false, false, false, false, false, false, false, false, false] (by kernel_rfl) rfl rfl ⟨hx233_0, ((HB.out.cell (World.block_lt_of_cell? w _ hw234_0)).trans hw234_0)⟩ (fun hHeld => ?_); refine with_tabW foghornlaw19_ReedApart.tab19 foghornlaw19_ReedApart.bits19 (fun HT_ HW_ => ?_)
                         generalize wc.drew = w50 at HO_16 HB hx233_0 hx234_0 hHeld ⊢
                         refine pure_ (i := 0) (N := some 127) (v := ?_) (a' := ?_) #[true, false, false, false, false, false, false, false, false, false, false, false, false, false, false, false] rfl rfl (any_of HT_.out (by kernel_rfl)) (fun _ _ _ h => h) (Or.inl ⟨by rfl, ?_⟩) ?_ ?_
                         rotate_left
                         ·intro w'
                          go_simp
                          with_reducible rfl
                         rotate_left
                         ·simp only [Act.put, List.setIfInBounds_toArray, List.set_cons_zero, List.set_cons_succ, i64_w, i32_w]
                          rfl
                         refine pure_ (i := 1) (N := some 128) (v := ?_) (a' := ?_) #[true, true, false, false, false, false, false, false, false, false, false, false, false, false, false, false] rfl rfl (any_of HT_.out (by kernel_rfl)) (fun _ _ _ h => h) (Or.inl ⟨by rfl, ?_⟩) ?_ ?_
                         rotate_left
                         ·intro w'
                          go_simp
                          with_reducible rfl
                         rotate_left
                         ·simp only [Act.put, List.setIfInBounds_toArray, List.set_cons_zero, List.set_cons_succ, i64_w, i32_w]
                          rfl
                         refine pure_ (i := 2) (N := some 129) (v := ?_) (a' := ?_) #[true, true, true, false, false, false, false, false, false, false, false, false, false, false, false, false] rfl rfl (any_of HT_.out (by kernel_rfl)) (fun _ _ _ h => h) (Or.inl ⟨by rfl, ?_⟩) ?_ ?_
                         rotate_left
                         ·intro w'
                          go_simp
                          with_reducible rfl
                         rotate_left
                         ·simp only [Act.put, List.setIfInBounds_toArray, List.set_cons_zero, List.set_cons_succ, i64_w, i32_w]
                          rfl
                         refine pure_ (i := 4) (N := some 131) (v := ?_) (a' := ?_) #[true, true, true, false, true, false, false, false, false, false, false, false, false, false, false, false] rfl rfl (any_of HT_.out (by kernel_rfl)) (fun _ _ _ h => h) (Or.inl ⟨by rfl, ?_⟩) ?_ ?_
                         rotate_left
                         ·intro w'
                          go_simp
                          with_reducible rfl
                         rotate_left
                         ·simp only [Act.put, List.setIfInBounds_toArray, List.set_cons_zero, List.set_cons_succ, i64_w, i32_w]
                          rfl
                         refine pure_ (i := 5) (N := some 132) (v := ?_) (a' := ?_) #[true, true, true, false, true, true, false, false, false, false, false, false, false, false, false, false] rfl rfl (any_of HT_.out (by kernel_rfl)) (fun _ _ _ h => h) (Or.inl ⟨by rfl, ?_⟩) ?_ ?_
                         rotate_left
                         ·intro w'
                          go_simp
                          with_reducible rfl
                         rotate_left
                         ·simp only [Act.put, List.setIfInBounds_toArray, List.set_cons_zero, List.set_cons_succ, i64_w, i32_w]
                          rfl
                         refine take_ (i := 3) (N := some 130) (v := ?_) (a' := ?_) #[true, true, true, true, true, true, false, false, false, false, false, false, false, false, false, false] rfl rfl (take_ofW HT_.out HW_.out (by kernel_rfl)) (fun _ _ _ h => h) (Or.inl ⟨by rfl, ?_⟩) hHeld ?_ ?_
                         rotate_left
                         ·rintro w' ⟨s0, s1⟩
                          go_simp
                          with_reducible rfl
                         rotate_left
                         ·simp only [Act.put, List.setIfInBounds_toArray, List.set_cons_zero, List.set_cons_succ, i64_w, i32_w]
                          rfl
                         refine take_ (i := 6) (N := some 133) (v := ?_) (a' := ?_) #[true, true, true, true, true, true, true, false, false, false, false, false, false, false, false, false] rfl rfl (take_ofW HT_.out HW_.out (by kernel_rfl)) (fun _ _ _ h => h) (Or.inl ⟨by rfl, ?_⟩) hHeld ?_ ?_
                         rotate_left
                         ·rintro w' ⟨s0, s1⟩
                          go_simp
                          with_reducible rfl
                         rotate_left
                         ·simp only [Act.put, List.setIfInBounds_toArray, List.set_cons_zero, List.set_cons_succ, i64_w, i32_w]
                          rfl
                         refine pure_ (i := 7) (N := some 134) (v := ?_) (a' := ?_) #[true, true, true, true, true, true, true, true, false, false, false, false, false, false, false, false] rfl rfl (any_of HT_.out (by kernel_rfl)) (fun _ _ _ h => h) (Or.inl ⟨by rfl, ?_⟩) ?_ ?_
                         rotate_left
                         ·intro w'
                          go_simp
                          with_reducible rfl
                         rotate_left
                         ·simp only [Act.put, List.setIfInBounds_toArray, List.set_cons_zero, List.set_cons_succ, i64_w, i32_w]
                          rfl
                         refine pure_ (i := 8) (N := some 135) (v := ?_) (a' := ?_) #[true, true, true, true, true, true, true, true, true, false, false, false, false, false, false, false] rfl rfl (any_of HT_.out (by kernel_rfl)) (fun _ _ _ h => h) (Or.inl ⟨by rfl, ?_⟩) ?_ ?_
                         rotate_left
                         ·intro w'
                          go_simp
                          with_reducible rfl
                         rotate_left
                         ·simp only [Act.put, List.setIfInBounds_toArray, List.set_cons_zero, List.set_cons_succ, i64_w, i32_w]
                          rfl
                         refine pure_ (i := 9) (N := some 136) (v := ?_) (a' := ?_) #[true, true, true, true, true, true, true, true, true, true, false, false, false, false, false, false] rfl rfl (any_of HT_.out (by kernel_rfl)) (fun _ _ _ h => h) (Or.inl ⟨by rfl, ?_⟩) ?_ ?_
                         rotate_left
                         ·intro w'
                          go_simp
                          with_reducible rfl
                         rotate_left
                         ·simp only [Act.put, List.setIfInBounds_toArray, List.set_cons_zero, List.set_cons_succ, i64_w, i32_w]
                          rfl
                         refine pure_ (i := 10) (N := some 137) (v := ?_) (a' := ?_) #[true, true, true, true, true, true, true, true, true, true, true, false, false, false, false, false] rfl rfl (any_of HT_.out (by kernel_rfl)) (fun _ _ _ h => h) (Or.inl ⟨by rfl, ?_⟩) ?_ ?_
                         rotate_left
                         ·intro w'
                          go_simp
                          with_reducible rfl
                         rotate_left
                         ·simp only [Act.put, List.setIfInBounds_toArray, List.set_cons_zero, List.set_cons_succ, i64_w, i32_w]
                          rfl
                         refine pure_ (i := 11) (N := some 138) (v := ?_) (a' := ?_) #[true, true, true, true, true, true, true, true, true, true, true, true, false, false, false, false] rfl rfl (any_of HT_.out (by kernel_rfl)) (fun _ _ _ h => h) (Or.inl ⟨by rfl, ?_⟩) ?_ ?_
                         rotate_left
                         ·intro w'
                          go_simp
                          with_reducible rfl
                         rotate_left
                         ·simp only [Act.put, List.setIfInBounds_toArray, List.set_cons_zero, List.set_cons_succ, i64_w, i32_w]
                          rfl
                         refine pure_ (i := 12) (N := some 139) (v := ?_) (a' := ?_) #[true, true, true, true, true, true, true, true, true, true, true, true, true, false, false, false] rfl rfl (any_of HT_.out (by kernel_rfl)) (fun _ _ _ h => h) (Or.inl ⟨by rfl, ?_⟩) ?_ ?_
                         rotate_left
                         ·intro w'
                          go_simp
                          with_reducible rfl
                         rotate_left
                         ·simp only [Act.put, List.setIfInBounds_toArray, List.set_cons_zero, List.set_cons_succ, i64_w, i32_w]
                          rfl
                         refine take_ (i := 13) (N := some 140) (v := ?_) (a' := ?_) #[true, true, true, true, true, true, true, true, true, true, true, true, true, true, false, false] rfl rfl (take_ofW HT_.out HW_.out (by kernel_rfl)) (fun _ _ _ h => h) (Or.inl ⟨by rfl, ?_⟩) hHeld ?_ ?_
                         rotate_left
                         ·rintro w' ⟨s0, s1⟩
                          go_simp
                          with_reducible rfl
                         rotate_left
                         ·simp only [Act.put, List.setIfInBounds_toArray, List.set_cons_zero, List.set_cons_succ, i64_w, i32_w]
                          rfl
                         refine pure_ (i := 14) (N := some 141) (v := ?_) (a' := ?_) #[true, true, true, true, true, true, true, true, true, true, true, true, true, true, true, false] rfl rfl (any_of HT_.out (by kernel_rfl)) (fun _ _ _ h => h) (Or.inl ⟨by rfl, ?_⟩) ?_ ?_
                         rotate_left
                         ·intro w'
                          go_simp
                          with_reducible rfl
                         rotate_left
                         ·simp only [Act.put, List.setIfInBounds_toArray, List.set_cons_zero, List.set_cons_succ, i64_w, i32_w]
                          rfl
                         refine pure_ (i := 15) (N := some 142) (v := ?_) (a' := ?_) #[true, true, true, true, true, true, true, true, true, true, true, true, true, true, true, true] rfl rfl (any_of HT_.out (by kernel_rfl)) (fun _ _ _ h => h) (Or.inl ⟨by rfl, ?_⟩) ?_ ?_
                         rotate_left
                         ·intro w'
                          go_simp
                          with_reducible rfl
                         rotate_left
                         ·simp only [Act.put, List.setIfInBounds_toArray, List.set_cons_zero, List.set_cons_succ, i64_w, i32_w]
                          rfl
                         refine done_ (done_of HT_.out (by kernel_rfl)) ?_
                         try go_wp2
                         first | go_roundg kj32 | (simp only [add_plain] at *; go_roundg kj32)
                         case measure => have := HJ16.out; have := HK2.out; have := HJ32.out; omega
                         case rel => exact ⟨(x16_2), (x17_2), (wrap64 (x18_2 + 2)), (by first | rfl | (simp; done) | (simp [*]; done)), (by first | rfl | (simp; done) | (simp [*]; done)), H', ⟨by have := HJ16.out; have := HK2.out; have := HJ32.out; omega⟩, ⟨by (with_reducible repeat (first | apply Kd.Q_alloc | apply Kd.Q_drewN | apply Kd.Q_drew)); exact HO_16.out⟩, ⟨by repeat (first | (with_reducible first | exact HB.out | apply below_alloc | apply pw_below_drewN | apply below_drew1) | exact HB.out)⟩⟩
                       ·rw [if_neg c48] at H
                        have c48b0 : ((rd l3 (ji45)) == 0) = false := beq_eq_false_iff_ne.mpr c48
                        have c48b1 : ((rd l3 (ji45)) != 0) = true := bne_iff_ne.mpr c48
                        obtain ⟨y237, hy237⟩ : ∃ y_ : List Int, y_ = (x16_2.set ((ji39) : Int).toNat (Go.bits .xor .u8 (rd x16_2 (ji39)) (rd l3 (ji45)))) := ⟨_, rfl⟩
                        replace H : (foghornlaw19_ReedApart.l0 kj32 t220 l3 t223 y237 (wrap64 (x17_2 + 1)) (wrap64 (x18_2 + 2))) = some r := by first | (rw [hy237]; with_reducible exact H) | (have H2_ := (Option.bind_some _ _).symm.trans H; rw [hy237]; with_reducible exact H2_) | (have H2_ := (Option.bind_some _ _).symm.trans H; with_reducible exact H2_) | with_reducible exact H | (rw [hy237]; exact H) | exact H
                        have Ny237 := Aside0.mk hy237
                        clear hy237
                        as_aux_lemma =>
                         have H' := Aside0.mk H
                         clear H
                         have p232 : 0 ≤ (x18_2 : Int) := of_decide_eq_true (by first | (with_reducible assumption) | assumption)
                         have q232 : x18_2 < (l3.length : Int) := of_decide_eq_true (by first | (with_reducible assumption) | assumption)
                         obtain ⟨ad232, e232, hx232_0⟩ := Kd.at_int HR3.out x18_2 p232 q232
                         cases e232
                         replace hx232_0 := (HB.out.cell (World.block_lt_of_cell? w _ hx232_0)).trans hx232_0
                         replace p232 := eq_true p232
                         replace q232 := eq_true q232
                         obtain ⟨Ao52, co52, eo52, _⟩ := Kd.Q_slice HO_16.out
                         subst eo52
                         try go_wp2
                         have n0_ := Aside0.mk (Kd.Q_drew HO_16.out)
                         have n1_ := Aside0.mk (below_drew1 HB.out)
                         clear HO_16
                         clear HB
                         have HO_16 := n0_
                         have HB := n1_
                         clear n0_ n1_
                         have p233 : 0 ≤ ((ji39) : Int) := of_decide_eq_true (by first | (with_reducible assumption) | assumption)
                         have q233 : (ji39) < (x16_2.length : Int) := of_decide_eq_true (by first | (with_reducible assumption) | assumption)
                         obtain ⟨ad233, e233, hx233_0⟩ := Kd.at_int (Kd.Q_reads' HO_16.out).2.2 (ji39) p233 q233
                         cases e233
                         replace p233 := eq_true p233
                         replace q233 := eq_true q233
                         have p43 : 0 ≤ ((ji39) : Int) := of_decide_eq_true (by first | (with_reducible assumption) | assumption)
                         have q43 : (ji39) < (t223.size : Int) := of_decide_eq_true (by first | (with_reducible assumption) | assumption)
                         have hx43 := bt_at t223 (ji39)
                         replace p43 := eq_true p43
                         replace q43 := eq_true q43
                         have p234 : 0 ≤ ((ji45) : Int) := of_decide_eq_true (by first | (with_reducible assumption) | assumption)
                         have q234 : (ji45) < (l3.length : Int) := of_decide_eq_true (by first | (with_reducible assumption) | assumption)
                         obtain ⟨ad234, e234, hx234_0⟩ := Kd.at_int HR3.out (ji45) p234 q234
                         have hw234_0 := hx234_0
                         obtain rfl : ad232 = ad234 := (by injection e234)
                         replace hx234_0 := (HB.out.cell (World.block_lt_of_cell? w _ hx234_0)).trans hx234_0
                         replace p234 := eq_true p234
                         replace q234 := eq_true q234
                         refine start_ (n := 16) (S := fun w' => w'.cell? (ad233.add ((ji39)).toNat) = some (.int .u8 (rd x16_2 (ji39))) ∧ w'.cell? (ad232.add ((ji45)).toNat) = some (.int .u8 (rd l3 (ji45)))) (ds := []) #[false, false, false, false, false, false, false, false, false, false, false, false, false, false, false, false] (by kernel_rfl) rfl rfl ⟨hx233_0, ((HB.out.cell (World.block_lt_of_cell? w _ hw234_0)).trans hw234_0)⟩ (fun hHeld => ?_); refine with_tabW foghornlaw19_ReedApart.tab19 foghornlaw19_ReedApart.bits19 (fun HT_ HW_ => ?_)
                         generalize wc.drew = w53 at HO_16 HB hx233_0 hx234_0 hHeld ⊢
                         refine pure_ (i := 0) (N := some 127) (v := ?_) (a' := ?_) #[true, false, false, false, false, false, false, false, false, false, false, false, false, false, false, false] rfl rfl (any_of HT_.out (by kernel_rfl)) (fun _ _ _ h => h) (Or.inl ⟨by rfl, ?_⟩) ?_ ?_
                         rotate_left
                         ·intro w'
                          go_simp
                          with_reducible rfl
                         rotate_left
                         ·simp only [Act.put, List.setIfInBounds_toArray, List.set_cons_zero, List.set_cons_succ, i64_w, i32_w]
                          rfl
                         refine pure_ (i := 1) (N := some 128) (v := ?_) (a' := ?_) #[true, true, false, false, false, false, false, false, false, false, false, false, false, false, false, false] rfl rfl (any_of HT_.out (by kernel_rfl)) (fun _ _ _ h => h) (Or.inl ⟨by rfl, ?_⟩) ?_ ?_
                         rotate_left
                         ·intro w'
                          go_simp
                          with_reducible rfl
                         rotate_left
                         ·simp only [Act.put, List.setIfInBounds_toArray, List.set_cons_zero, List.set_cons_succ, i64_w, i32_w]
                          rfl
                         refine pure_ (i := 2) (N := some 129) (v := ?_) (a' := ?_) #[true, true, true, false, false, false, false, false, false, false, false, false, false, false, false, false] rfl rfl (any_of HT_.out (by kernel_rfl)) (fun _ _ _ h => h) (Or.inl ⟨by rfl, ?_⟩) ?_ ?_
                         rotate_left
                         ·intro w'
                          go_simp
                          with_reducible rfl
                         rotate_left
                         ·simp only [Act.put, List.setIfInBounds_toArray, List.set_cons_zero, List.set_cons_succ, i64_w, i32_w]
                          rfl
                         refine pure_ (i := 4) (N := some 131) (v := ?_) (a' := ?_) #[true, true, true, false, true, false, false, false, false, false, false, false, false, false, false, false] rfl rfl (any_of HT_.out (by kernel_rfl)) (fun _ _ _ h => h) (Or.inl ⟨by rfl, ?_⟩) ?_ ?_
                         rotate_left
                         ·intro w'
                          go_simp
                          with_reducible rfl
                         rotate_left
                         ·simp only [Act.put, List.setIfInBounds_toArray, List.set_cons_zero, List.set_cons_succ, i64_w, i32_w]
                          rfl
                         refine pure_ (i := 5) (N := some 132) (v := ?_) (a' := ?_) #[true, true, true, false, true, true, false, false, false, false, false, false, false, false, false, false] rfl rfl (any_of HT_.out (by kernel_rfl)) (fun _ _ _ h => h) (Or.inl ⟨by rfl, ?_⟩) ?_ ?_
                         rotate_left
                         ·intro w'
                          go_simp
                          with_reducible rfl
                         rotate_left
                         ·simp only [Act.put, List.setIfInBounds_toArray, List.set_cons_zero, List.set_cons_succ, i64_w, i32_w]
                          rfl
                         refine take_ (i := 3) (N := some 130) (v := ?_) (a' := ?_) #[true, true, true, true, true, true, false, false, false, false, false, false, false, false, false, false] rfl rfl (take_ofW HT_.out HW_.out (by kernel_rfl)) (fun _ _ _ h => h) (Or.inl ⟨by rfl, ?_⟩) hHeld ?_ ?_
                         rotate_left
                         ·rintro w' ⟨s0, s1⟩
                          go_simp
                          with_reducible rfl
                         rotate_left
                         ·simp only [Act.put, List.setIfInBounds_toArray, List.set_cons_zero, List.set_cons_succ, i64_w, i32_w]
                          rfl
                         refine take_ (i := 6) (N := some 133) (v := ?_) (a' := ?_) #[true, true, true, true, true, true, true, false, false, false, false, false, false, false, false, false] rfl rfl (take_ofW HT_.out HW_.out (by kernel_rfl)) (fun _ _ _ h => h) (Or.inl ⟨by rfl, ?_⟩) hHeld ?_ ?_
                         rotate_left
                         ·rintro w' ⟨s0, s1⟩
                          go_simp
                          with_reducible rfl
                         rotate_left
                         ·simp only [Act.put, List.setIfInBounds_toArray, List.set_cons_zero, List.set_cons_succ, i64_w, i32_w]
                          rfl
                         refine pure_ (i := 7) (N := some 134) (v := ?_) (a' := ?_) #[true, true, true, true, true, true, true, true, false, false, false, false, false, false, false, false] rfl rfl (any_of HT_.out (by kernel_rfl)) (fun _ _ _ h => h) (Or.inl ⟨by rfl, ?_⟩) ?_ ?_
                         rotate_left
                         ·intro w'
                          go_simp
                          with_reducible rfl
                         rotate_left
                         ·simp only [Act.put, List.setIfInBounds_toArray, List.set_cons_zero, List.set_cons_succ, i64_w, i32_w]
                          rfl
                         refine pure_ (i := 8) (N := some 135) (v := ?_) (a' := ?_) #[true, true, true, true, true, true, true, true, true, false, false, false, false, false, false, false] rfl rfl (any_of HT_.out (by kernel_rfl)) (fun _ _ _ h => h) (Or.inl ⟨by rfl, ?_⟩) ?_ ?_
                         rotate_left
                         ·intro w'
                          go_simp
                          with_reducible rfl
                         rotate_left
                         ·simp only [Act.put, List.setIfInBounds_toArray, List.set_cons_zero, List.set_cons_succ, i64_w, i32_w]
                          rfl
                         refine pure_ (i := 9) (N := some 136) (v := ?_) (a' := ?_) #[true, true, true, true, true, true, true, true, true, true, false, false, false, false, false, false] rfl rfl (any_of HT_.out (by kernel_rfl)) (fun _ _ _ h => h) (Or.inl ⟨by rfl, ?_⟩) ?_ ?_
                         rotate_left
                         ·intro w'
                          go_simp
                          with_reducible rfl
                         rotate_left
                         ·simp only [Act.put, List.setIfInBounds_toArray, List.set_cons_zero, List.set_cons_succ, i64_w, i32_w]
                          rfl
                         refine pure_ (i := 10) (N := some 137) (v := ?_) (a' := ?_) #[true, true, true, true, true, true, true, true, true, true, true, false, false, false, false, false] rfl rfl (any_of HT_.out (by kernel_rfl)) (fun _ _ _ h => h) (Or.inl ⟨by rfl, ?_⟩) ?_ ?_
                         rotate_left
                         ·intro w'
                          go_simp
                          with_reducible rfl
                         rotate_left
                         ·simp only [Act.put, List.setIfInBounds_toArray, List.set_cons_zero, List.set_cons_succ, i64_w, i32_w]
                          rfl
                         refine pure_ (i := 11) (N := some 138) (v := ?_) (a' := ?_) #[true, true, true, true, true, true, true, true, true, true, true, true, false, false, false, false] rfl rfl (any_of HT_.out (by kernel_rfl)) (fun _ _ _ h => h) (Or.inl ⟨by rfl, ?_⟩) ?_ ?_
                         rotate_left
                         ·intro w'
                          go_simp
                          with_reducible rfl
                         rotate_left
                         ·simp only [Act.put, List.setIfInBounds_toArray, List.set_cons_zero, List.set_cons_succ, i64_w, i32_w]
                          rfl
                         refine pure_ (i := 12) (N := some 139) (v := ?_) (a' := ?_) #[true, true, true, true, true, true, true, true, true, true, true, true, true, false, false, false] rfl rfl (any_of HT_.out (by kernel_rfl)) (fun _ _ _ h => h) (Or.inl ⟨by rfl, ?_⟩) ?_ ?_
                         rotate_left
                         ·intro w'
                          go_simp
                          with_reducible rfl
                         rotate_left
                         ·simp only [Act.put, List.setIfInBounds_toArray, List.set_cons_zero, List.set_cons_succ, i64_w, i32_w]
                          rfl
                         refine take_ (i := 13) (N := some 140) (v := ?_) (a' := ?_) #[true, true, true, true, true, true, true, true, true, true, true, true, true, true, false, false] rfl rfl (take_ofW HT_.out HW_.out (by kernel_rfl)) (fun _ _ _ h => h) (Or.inl ⟨by rfl, ?_⟩) hHeld ?_ ?_
                         rotate_left
                         ·rintro w' ⟨s0, s1⟩
                          go_simp
                          with_reducible rfl
                         rotate_left
                         ·simp only [Act.put, List.setIfInBounds_toArray, List.set_cons_zero, List.set_cons_succ, i64_w, i32_w]
                          rfl
                         refine pure_ (i := 14) (N := some 141) (v := ?_) (a' := ?_) #[true, true, true, true, true, true, true, true, true, true, true, true, true, true, true, false] rfl rfl (any_of HT_.out (by kernel_rfl)) (fun _ _ _ h => h) (Or.inl ⟨by rfl, ?_⟩) ?_ ?_
                         rotate_left
                         ·intro w'
                          go_simp
                          with_reducible rfl
                         rotate_left
                         ·simp only [Act.put, List.setIfInBounds_toArray, List.set_cons_zero, List.set_cons_succ, i64_w, i32_w]
                          rfl
                         refine pure_ (i := 15) (N := some 142) (v := ?_) (a' := ?_) #[true, true, true, true, true, true, true, true, true, true, true, true, true, true, true, true] rfl rfl (any_of HT_.out (by kernel_rfl)) (fun _ _ _ h => h) (Or.inl ⟨by rfl, ?_⟩) ?_ ?_
                         rotate_left
                         ·intro w'
                          go_simp
                          with_reducible rfl
                         rotate_left
                         ·simp only [Act.put, List.setIfInBounds_toArray, List.set_cons_zero, List.set_cons_succ, i64_w, i32_w]
                          rfl
                         refine done_ (done_of HT_.out (by kernel_rfl)) ?_
                         try go_wp2
                         have n0_ := Aside0.mk (Kd.Q_drew HO_16.out)
                         have n1_ := Aside0.mk (below_drew1 HB.out)
                         clear HO_16
                         clear HB
                         have HO_16 := n0_
                         have HB := n1_
                         clear n0_ n1_
                         have p235 : 0 ≤ ((ji39) : Int) := of_decide_eq_true (by first | (with_reducible assumption) | assumption)
                         have q235 : (ji39) < (x16_2.length : Int) := of_decide_eq_true (by first | (with_reducible assumption) | assumption)
                         obtain ⟨ad235, e235, hx235_0⟩ := Kd.at_int (Kd.Q_reads' HO_16.out).2.2 (ji39) p235 q235
                         obtain rfl : ad233 = ad235 := (by injection e235)
                         replace p235 := eq_true p235
                         replace q235 := eq_true q235
                         have p236 : 0 ≤ ((ji45) : Int) := of_decide_eq_true (by first | (with_reducible assumption) | assumption)
                         have q236 : (ji45) < (l3.length : Int) := of_decide_eq_true (by first | (with_reducible assumption) | assumption)
                         obtain ⟨ad236, e236, hx236_0⟩ := Kd.at_int HR3.out (ji45) p236 q236
                         have hw236_0 := hx236_0
                         obtain rfl : ad232 = ad236 := (by injection e236)
                         replace hx236_0 := (HB.out.cell (World.block_lt_of_cell? w _ hx236_0)).trans hx236_0
                         replace p236 := eq_true p236
                         replace q236 := eq_true q236
                         have p51 : 0 ≤ ((ji39) : Int) := of_decide_eq_true (by first | (with_reducible assumption) | assumption)
                         have q51 : ((ji39) : Int) < ((x16_2.length : Int) : Int) := of_decide_eq_true (by first | (with_reducible assumption) | assumption)
                         obtain ⟨go51, oo51, co51, eo51, gb51, gl51, cl51, HG51⟩ := Kd.Q_form HO_16.out (by omega)
                         (first | cases eo51 | (injection eo51 with ea_ en_ ec_; (first | subst ea_ | (injection ea_ with ea_; subst ea_)); subst ec_; clear en_))
                         have GB51 := Aside0.mk gb51
                         have GG51 := Aside0.mk HG51
                         clear gb51 gl51 HG51
                         (first | simp only [add_at] at hx233_0 | skip)
                         (first | simp only [add_at] at hx235_0 | skip)
                         obtain ⟨hx51_0, hf51_0⟩ := Kd.Q_cell 0 HO_16.out ((ji39) : Int) p51 q51
                         replace p51 := eq_true p51
                         replace q51 := eq_true q51
                         have HP55 := (Kd.Q_putg HO_16.out ((ji39) : Int) (of_decide_eq_true (by first | (with_reducible assumption) | assumption)) (by have h_ : ((ji39) : Int) < ((x16_2.length : Int) : Int) := of_decide_eq_true (by first | (with_reducible assumption) | assumption); first | exact h_ | (have e_ := (Kd.Q_reads' HO_16.out).1; omega) | simpa using h_) (Go.bits .xor .u8 (rd x16_2 (ji39)) (rd l3 (ji45)))).1
                         rw [← Ny237.out] at HP55
                         have HQ55 := Aside0.mk HP55
                         clear HP55
                         refine start_ (n := 14) (S := fun w' => w'.cell? ⟨go51, oo51 + ((ji39)).toNat, none⟩ = some (.int .u8 (rd x16_2 (ji39))) ∧ w'.cell? (ad232.add ((ji45)).toNat) = some (.int .u8 (rd l3 (ji45)))) (ds := [13]) #[false, false, false, false, false, false, false, false, false, false, false, false, false, false] (by kernel_rfl) rfl rfl ⟨hx235_0, ((HB.out.cell (World.block_lt_of_cell? w _ hw236_0)).trans hw236_0)⟩ (fun hHeld => ?_); refine with_tabW foghornlaw19_ReedApart.tab20 foghornlaw19_ReedApart.bits20 (fun HT_ HW_ => ?_)
                         generalize w53.drew = w54 at HO_16 HB GG51 HQ55 hf51_0 hx233_0 hx235_0 hx236_0 hx51_0 hHeld ⊢
                         refine pure_ (i := 0) (N := some 143) (v := ?_) (a' := ?_) #[true, false, false, false, false, false, false, false, false, false, false, false, false, false] rfl rfl (any_of HT_.out (by kernel_rfl)) (fun _ _ _ h => h) (Or.inl ⟨by rfl, ?_⟩) ?_ ?_
                         rotate_left
                         ·intro w'
                          go_simp
                          with_reducible rfl
                         rotate_left
                         ·simp only [Act.put, List.setIfInBounds_toArray, List.set_cons_zero, List.set_cons_succ, i64_w, i32_w]
                          rfl
                         refine pure_ (i := 1) (N := some 144) (v := ?_) (a' := ?_) #[true, true, false, false, false, false, false, false, false, false, false, false, false, false] rfl rfl (any_of HT_.out (by kernel_rfl)) (fun _ _ _ h => h) (Or.inl ⟨by rfl, ?_⟩) ?_ ?_
                         rotate_left
                         ·intro w'
                          go_simp
                          with_reducible rfl
                         rotate_left
                         ·simp only [Act.put, List.setIfInBounds_toArray, List.set_cons_zero, List.set_cons_succ, i64_w, i32_w]
                          rfl
                         refine pure_ (i := 2) (N := some 145) (v := ?_) (a' := ?_) #[true, true, true, false, false, false, false, false, false, false, false, false, false, false] rfl rfl (any_of HT_.out (by kernel_rfl)) (fun _ _ _ h => h) (Or.inl ⟨by rfl, ?_⟩) ?_ ?_
                         rotate_left
                         ·intro w'
                          go_simp
                          with_reducible rfl
                         rotate_left
                         ·simp only [Act.put, List.setIfInBounds_toArray, List.set_cons_zero, List.set_cons_succ, i64_w, i32_w]
                          rfl
                         refine pure_ (i := 3) (N := some 146) (v := ?_) (a' := ?_) #[true, true, true, true, false, false, false, false, false, false, false, false, false, false] rfl rfl (any_of HT_.out (by kernel_rfl)) (fun _ _ _ h => h) (Or.inl ⟨by rfl, ?_⟩) ?_ ?_
                         rotate_left
                         ·intro w'
                          go_simp
                          with_reducible rfl
                         rotate_left
                         ·simp only [Act.put, List.setIfInBounds_toArray, List.set_cons_zero, List.set_cons_succ, i64_w, i32_w]
                          rfl
                         refine pure_ (i := 4) (N := some 147) (v := ?_) (a' := ?_) #[true, true, true, true, true, false, false, false, false, false, false, false, false, false] rfl rfl (any_of HT_.out (by kernel_rfl)) (fun _ _ _ h => h) (Or.inl ⟨by rfl, ?_⟩) ?_ ?_
                         rotate_left
                         ·intro w'
                          go_simp
                          with_reducible rfl
                         rotate_left
                         ·simp only [Act.put, List.setIfInBounds_toArray, List.set_cons_zero, List.set_cons_succ, i64_w, i32_w]
                          rfl
                         refine pure_ (i := 6) (N := some 149) (v := ?_) (a' := ?_) #[true, true, true, true, true, false, true, false, false, false, false, false, false, false] rfl rfl (any_of HT_.out (by kernel_rfl)) (fun _ _ _ h => h) (Or.inl ⟨by rfl, ?_⟩) ?_ ?_
                         rotate_left
                         ·intro w'
                          go_simp
                          with_reducible rfl
                         rotate_left
                         ·simp only [Act.put, List.setIfInBounds_toArray, List.set_cons_zero, List.set_cons_succ, i64_w, i32_w]
                          rfl
                         refine pure_ (i := 7) (N := some 150) (v := ?_) (a' := ?_) #[true, true, true, true, true, false, true, true, false, false, false, false, false, false] rfl rfl (any_of HT_.out (by kernel_rfl)) (fun _ _ _ h => h) (Or.inl ⟨by rfl, ?_⟩) ?_ ?_
                         rotate_left
                         ·intro w'
                          go_simp
                          with_reducible rfl
                         rotate_left
                         ·simp only [Act.put, List.setIfInBounds_toArray, List.set_cons_zero, List.set_cons_succ, i64_w, i32_w]
                          rfl
                         refine pure_ (i := 8) (N := some 151) (v := ?_) (a' := ?_) #[true, true, true, true, true, false, true, true, true, false, false, false, false, false] rfl rfl (any_of HT_.out (by kernel_rfl)) (fun _ _ _ h => h) (Or.inl ⟨by rfl, ?_⟩) ?_ ?_
                         rotate_left
                         ·intro w'
                          go_simp
                          with_reducible rfl
                         rotate_left
                         ·simp only [Act.put, List.setIfInBounds_toArray, List.set_cons_zero, List.set_cons_succ, i64_w, i32_w]
                          rfl
                         refine pure_ (i := 9) (N := some 152) (v := ?_) (a' := ?_) #[true, true, true, true, true, false, true, true, true, true, false, false, false, false] rfl rfl (any_of HT_.out (by kernel_rfl)) (fun _ _ _ h => h) (Or.inl ⟨by rfl, ?_⟩) ?_ ?_
                         rotate_left
                         ·intro w'
                          go_simp
                          with_reducible rfl
                         rotate_left
                         ·simp only [Act.put, List.setIfInBounds_toArray, List.set_cons_zero, List.set_cons_succ, i64_w, i32_w]
                          rfl
                         refine take_ (i := 5) (N := some 148) (v := ?_) (a' := ?_) #[true, true, true, true, true, true, true, true, true, true, false, false, false, false] rfl rfl (take_ofW HT_.out HW_.out (by kernel_rfl)) (fun _ _ _ h => h) (Or.inl ⟨by rfl, ?_⟩) hHeld ?_ ?_
                         rotate_left
                         ·rintro w' ⟨s0, s1⟩
                          go_simp
                          with_reducible rfl
                         rotate_left
                         ·simp only [Act.put, List.setIfInBounds_toArray, List.set_cons_zero, List.set_cons_succ, i64_w, i32_w]
                          rfl
                         refine take_ (i := 10) (N := some 153) (v := ?_) (a' := ?_) #[true, true, true, true, true, true, true, true, true, true, true, false, false, false] rfl rfl (take_ofW HT_.out HW_.out (by kernel_rfl)) (fun _ _ _ h => h) (Or.inl ⟨by rfl, ?_⟩) hHeld ?_ ?_
                         rotate_left
                         ·rintro w' ⟨s0, s1⟩
                          go_simp
                          with_reducible rfl
                         rotate_left
                         ·simp only [Act.put, List.setIfInBounds_toArray, List.set_cons_zero, List.set_cons_succ, i64_w, i32_w]
                          rfl
                         refine pure_ (i := 11) (N := some 154) (v := ?_) (a' := ?_) #[true, true, true, true, true, true, true, true, true, true, true, true, false, false] rfl rfl (any_of HT_.out (by kernel_rfl)) (fun _ _ _ h => h) (Or.inl ⟨by rfl, ?_⟩) ?_ ?_
                         rotate_left
                         ·intro w'
                          go_simp
                          with_reducible rfl
                         rotate_left
                         ·simp only [Act.put, List.setIfInBounds_toArray, List.set_cons_zero, List.set_cons_succ, i64_w, i32_w]
                          rfl
                         refine pure_ (i := 12) (N := some 155) (v := ?_) (a' := ?_) #[true, true, true, true, true, true, true, true, true, true, true, true, true, false] rfl rfl (any_of HT_.out (by kernel_rfl)) (fun _ _ _ h => h) (Or.inl ⟨by rfl, ?_⟩) ?_ ?_
                         rotate_left
                         ·intro w'
                          go_simp
                          with_reducible rfl
                         rotate_left
                         ·simp only [Act.put, List.setIfInBounds_toArray, List.set_cons_zero, List.set_cons_succ, i64_w, i32_w]
                          rfl
                         refine last_ (i := 13) (N := none) #[true, true, true, true, true, true, true, true, true, true, true, true, true, true] rfl rfl (one_of HT_.out (by kernel_rfl)) (by decide) (fun K hK => ?_)
                         refine skip_ (w1 := ?_) (by rfl) rfl ?_ ?_
                         rotate_left
                         ·go_simp
                          rfl
                         refine hK.out _ _ ?_
                         clear hK K
                         refine done_ (done_of HT_.out (by kernel_rfl)) ?_
                         try go_wp2
                         first | go_roundg kj32 | (simp only [add_plain] at *; go_roundg kj32)
                         case measure => have := HJ16.out; have := HK2.out; have := HJ32.out; omega
                         case rel => exact ⟨(y237), (wrap64 (x17_2 + 1)), (wrap64 (x18_2 + 2)), (by first | rfl | (simp; done) | (simp [*]; done)), (by first | rfl | (simp; done) | (simp [*]; done)), H', ⟨by have := HJ16.out; have := HK2.out; have := HJ32.out; omega⟩, ⟨by (with_reducible repeat (first | apply Kd.Q_alloc | apply Kd.Q_drewN | apply Kd.Q_drew)); exact HQ55.out⟩, ⟨by repeat (first | (with_reducible first | exact HB.out | apply below_alloc | apply pw_below_drewN | apply below_drew1 | refine below_set ?_ GB51.out) | exact HB.out)⟩⟩
                      ·rw [if_neg c47] at H
                       exact absurd H (by simp)
                     ·rw [if_neg c46] at H
                      exact absurd H (by simp)
                    ·rw [if_neg c44] at H
                     have c44b0 : ((rd x16_2 (ji39)) == (bt t223 (ji39))) = false := beq_eq_false_iff_ne.mpr c44
                     have c44b1 : ((rd x16_2 (ji39)) != (bt t223 (ji39))) = true := bne_iff_ne.mpr c44
                     as_aux_lemma =>
                      have H' := Aside0.mk H
                      clear H
                      have p232 : 0 ≤ (x18_2 : Int) := of_decide_eq_true (by first | (with_reducible assumption) | assumption)
                      have q232 : x18_2 < (l3.length : Int) := of_decide_eq_true (by first | (with_reducible assumption) | assumption)
                      obtain ⟨ad232, e232, hx232_0⟩ := Kd.at_int HR3.out x18_2 p232 q232
                      cases e232
                      replace hx232_0 := (HB.out.cell (World.block_lt_of_cell? w _ hx232_0)).trans hx232_0
                      replace p232 := eq_true p232
                      replace q232 := eq_true q232
                      obtain ⟨Ao56, co56, eo56, _⟩ := Kd.Q_slice HO_16.out
                      subst eo56
                      try go_wp2
                      have n0_ := Aside0.mk (Kd.Q_drew HO_16.out)
                      have n1_ := Aside0.mk (below_drew1 HB.out)
                      clear HO_16
                      clear HB
                      have HO_16 := n0_
                      have HB := n1_
                      clear n0_ n1_
                      have p233 : 0 ≤ ((ji39) : Int) := of_decide_eq_true (by first | (with_reducible assumption) | assumption)
                      have q233 : (ji39) < (x16_2.length : Int) := of_decide_eq_true (by first | (with_reducible assumption) | assumption)
                      obtain ⟨ad233, e233, hx233_0⟩ := Kd.at_int (Kd.Q_reads' HO_16.out).2.2 (ji39) p233 q233
                      cases e233
                      replace p233 := eq_true p233
                      replace q233 := eq_true q233
                      have p43 : 0 ≤ ((ji39) : Int) := of_decide_eq_true (by first | (with_reducible assumption) | assumption)
                      have q43 : (ji39) < (t223.size : Int) := of_decide_eq_true (by first | (with_reducible assumption) | assumption)
                      have hx43 := bt_at t223 (ji39)
                      replace p43 := eq_true p43
                      replace q43 := eq_true q43
                      refine start_ (n := 16) (S := fun w' => w'.cell? (ad233.add ((ji39)).toNat) = some (.int .u8 (rd x16_2 (ji39)))) (ds := []) #[false, false, false, false, false, false, false, false, false, false, false, false, false, false, false, false] (by kernel_rfl) rfl rfl (hx233_0) (fun hHeld => ?_); refine with_tabW foghornlaw19_ReedApart.tab19 foghornlaw19_ReedApart.bits19 (fun HT_ HW_ => ?_)
                      generalize wc.drew = w57 at HO_16 HB hx233_0 hHeld ⊢
                      refine pure_ (i := 0) (N := some 127) (v := ?_) (a' := ?_) #[true, false, false, false, false, false, false, false, false, false, false, false, false, false, false, false] rfl rfl (any_of HT_.out (by kernel_rfl)) (fun _ _ _ h => h) (Or.inl ⟨by rfl, ?_⟩) ?_ ?_
                      rotate_left
                      ·intro w'
                       go_simp
                       with_reducible rfl
                      rotate_left
                      ·simp only [Act.put, List.setIfInBounds_toArray, List.set_cons_zero, List.set_cons_succ, i64_w, i32_w]
                       rfl
                      refine pure_ (i := 1) (N := some 128) (v := ?_) (a' := ?_) #[true, true, false, false, false, false, false, false, false, false, false, false, false, false, false, false] rfl rfl (any_of HT_.out (by kernel_rfl)) (fun _ _ _ h => h) (Or.inl ⟨by rfl, ?_⟩) ?_ ?_
                      rotate_left
                      ·intro w'
                       go_simp
                       with_reducible rfl
                      rotate_left
                      ·simp only [Act.put, List.setIfInBounds_toArray, List.set_cons_zero, List.set_cons_succ, i64_w, i32_w]
                       rfl
                      refine pure_ (i := 2) (N := some 129) (v := ?_) (a' := ?_) #[true, true, true, false, false, false, false, false, false, false, false, false, false, false, false, false] rfl rfl (any_of HT_.out (by kernel_rfl)) (fun _ _ _ h => h) (Or.inl ⟨by rfl, ?_⟩) ?_ ?_
                      rotate_left
                      ·intro w'
                       go_simp
                       with_reducible rfl
                      rotate_left
                      ·simp only [Act.put, List.setIfInBounds_toArray, List.set_cons_zero, List.set_cons_succ, i64_w, i32_w]
                       rfl
                      refine pure_ (i := 4) (N := some 131) (v := ?_) (a' := ?_) #[true, true, true, false, true, false, false, false, false, false, false, false, false, false, false, false] rfl rfl (any_of HT_.out (by kernel_rfl)) (fun _ _ _ h => h) (Or.inl ⟨by rfl, ?_⟩) ?_ ?_
                      rotate_left
                      ·intro w'
                       go_simp
                       with_reducible rfl
                      rotate_left
                      ·simp only [Act.put, List.setIfInBounds_toArray, List.set_cons_zero, List.set_cons_succ, i64_w, i32_w]
                       rfl
                      refine pure_ (i := 5) (N := some 132) (v := ?_) (a' := ?_) #[true, true, true, false, true, true, false, false, false, false, false, false, false, false, false, false] rfl rfl (any_of HT_.out (by kernel_rfl)) (fun _ _ _ h => h) (Or.inl ⟨by rfl, ?_⟩) ?_ ?_
                      rotate_left
                      ·intro w'
                       go_simp
                       with_reducible rfl
                      rotate_left
                      ·simp only [Act.put, List.setIfInBounds_toArray, List.set_cons_zero, List.set_cons_succ, i64_w, i32_w]
                       rfl
                      refine take_ (i := 3) (N := some 130) (v := ?_) (a' := ?_) #[true, true, true, true, true, true, false, false, false, false, false, false, false, false, false, false] rfl rfl (take_ofW HT_.out HW_.out (by kernel_rfl)) (fun _ _ _ h => h) (Or.inl ⟨by rfl, ?_⟩) hHeld ?_ ?_
                      rotate_left
                      ·intro w' s0
                       go_simp
                       with_reducible rfl
                      rotate_left
                      ·simp only [Act.put, List.setIfInBounds_toArray, List.set_cons_zero, List.set_cons_succ, i64_w, i32_w]
                       rfl
                      refine take_ (i := 6) (N := some 133) (v := ?_) (a' := ?_) #[true, true, true, true, true, true, true, false, false, false, false, false, false, false, false, false] rfl rfl (take_ofW HT_.out HW_.out (by kernel_rfl)) (fun _ _ _ h => h) (Or.inl ⟨by rfl, ?_⟩) hHeld ?_ ?_
                      rotate_left
                      ·intro w' s0
                       go_simp
                       with_reducible rfl
                      rotate_left
                      ·simp only [Act.put, List.setIfInBounds_toArray, List.set_cons_zero, List.set_cons_succ, i64_w, i32_w]
                       rfl
                      refine pure_ (i := 7) (N := some 134) (v := ?_) (a' := ?_) #[true, true, true, true, true, true, true, true, false, false, false, false, false, false, false, false] rfl rfl (any_of HT_.out (by kernel_rfl)) (fun _ _ _ h => h) (Or.inl ⟨by rfl, ?_⟩) ?_ ?_
                      rotate_left
                      ·intro w'
                       go_simp
                       with_reducible rfl
                      rotate_left
                      ·simp only [Act.put, List.setIfInBounds_toArray, List.set_cons_zero, List.set_cons_succ, i64_w, i32_w]
                       rfl
                      refine pure_ (i := 8) (N := some 135) (v := ?_) (a' := ?_) #[true, true, true, true, true, true, true, true, true, false, false, false, false, false, false, false] rfl rfl (any_of HT_.out (by kernel_rfl)) (fun _ _ _ h => h) (Or.inl ⟨by rfl, ?_⟩) ?_ ?_
                      rotate_left
                      ·intro w'
                       go_simp
                       with_reducible rfl
                      rotate_left
                      ·simp only [Act.put, List.setIfInBounds_toArray, List.set_cons_zero, List.set_cons_succ, i64_w, i32_w]
                       rfl
                      refine pure_ (i := 9) (N := some 136) (v := undef) (a' := ?_) #[true, true, true, true, true, true, true, true, true, true, false, false, false, false, false, false] rfl rfl (any_of HT_.out (by kernel_rfl)) (fun _ _ _ h => h) (Or.inr ⟨by rfl, rfl⟩) ?_ ?_
                      rotate_left
                      ·simp only [Act.put, List.setIfInBounds_toArray, List.set_cons_zero, List.set_cons_succ, i64_w, i32_w]
                       rfl
                      refine pure_ (i := 10) (N := some 137) (v := undef) (a' := ?_) #[true, true, true, true, true, true, true, true, true, true, true, false, false, false, false, false] rfl rfl (any_of HT_.out (by kernel_rfl)) (fun _ _ _ h => h) (Or.inr ⟨by rfl, rfl⟩) ?_ ?_
                      rotate_left
                      ·simp only [Act.put, List.setIfInBounds_toArray, List.set_cons_zero, List.set_cons_succ, i64_w, i32_w]
                       rfl
                      refine pure_ (i := 11) (N := some 138) (v := undef) (a' := ?_) #[true, true, true, true, true, true, true, true, true, true, true, true, false, false, false, false] rfl rfl (any_of HT_.out (by kernel_rfl)) (fun _ _ _ h => h) (Or.inr ⟨by rfl, rfl⟩) ?_ ?_
                      rotate_left
                      ·simp only [Act.put, List.setIfInBounds_toArray, List.set_cons_zero, List.set_cons_succ, i64_w, i32_w]
                       rfl
                      refine pure_ (i := 12) (N := some 139) (v := undef) (a' := ?_) #[true, true, true, true, true, true, true, true, true, true, true, true, true, false, false, false] rfl rfl (any_of HT_.out (by kernel_rfl)) (fun _ _ _ h => h) (Or.inr ⟨by rfl, rfl⟩) ?_ ?_
                      rotate_left
                      ·simp only [Act.put, List.setIfInBounds_toArray, List.set_cons_zero, List.set_cons_succ, i64_w, i32_w]
                       rfl
                      refine pure_ (i := 13) (N := some 140) (v := undef) (a' := ?_) #[true, true, true, true, true, true, true, true, true, true, true, true, true, true, false, false] rfl rfl (any_of HT_.out (by kernel_rfl)) (fun _ _ _ h => h) (Or.inr ⟨by rfl, rfl⟩) ?_ ?_
                      rotate_left
                      ·simp only [Act.put, List.setIfInBounds_toArray, List.set_cons_zero, List.set_cons_succ, i64_w, i32_w]
                       rfl
                      refine pure_ (i := 14) (N := some 141) (v := undef) (a' := ?_) #[true, true, true, true, true, true, true, true, true, true, true, true, true, true, true, false] rfl rfl (any_of HT_.out (by kernel_rfl)) (fun _ _ _ h => h) (Or.inr ⟨by rfl, rfl⟩) ?_ ?_
                      rotate_left
                      ·simp only [Act.put, List.setIfInBounds_toArray, List.set_cons_zero, List.set_cons_succ, i64_w, i32_w]
                       rfl
                      refine pure_ (i := 15) (N := some 142) (v := ?_) (a' := ?_) #[true, true, true, true, true, true, true, true, true, true, true, true, true, true, true, true] rfl rfl (any_of HT_.out (by kernel_rfl)) (fun _ _ _ h => h) (Or.inl ⟨by rfl, ?_⟩) ?_ ?_
                      rotate_left
                      ·intro w'
                       go_simp
                       with_reducible rfl
                      rotate_left
                      ·simp only [Act.put, List.setIfInBounds_toArray, List.set_cons_zero, List.set_cons_succ, i64_w, i32_w]
                       rfl
                      refine done_ (done_of HT_.out (by kernel_rfl)) ?_
                      try go_wp2
                      first | go_roundg kj32 | (simp only [add_plain] at *; go_roundg kj32)
                      case measure => have := HJ16.out; have := HK2.out; have := HJ32.out; omega
                      case rel => exact ⟨(x16_2), (x17_2), (wrap64 (x18_2 + 2)), (by first | rfl | (simp; done) | (simp [*]; done)), (by first | rfl | (simp; done) | (simp [*]; done)), H', ⟨by have := HJ16.out; have := HK2.out; have := HJ32.out; omega⟩, ⟨by (with_reducible repeat (first | apply Kd.Q_alloc | apply Kd.Q_drewN | apply Kd.Q_drew)); exact HO_16.out⟩, ⟨by repeat (first | (with_reducible first | exact HB.out | apply below_alloc | apply pw_below_drewN | apply below_drew1) | exact HB.out)⟩⟩
                   ·rw [if_neg c42] at H
                    exact absurd H (by simp)
                  ·rw [if_neg c41] at H
                   exact absurd H (by simp)
                 ·rw [if_neg c40] at H
                  exact absurd H (by simp)
               ·rw [if_neg c37] at H
                exact absurd H (by simp)
              ·rw [if_neg c36] at H
               exact absurd H (by simp)
             ·replace c35 := Bool.eq_false_iff.mpr c35
              subst c35
              have H1 : ((reed_Whole.f kj32 (strOfNums x16_2) t220).bind fun bt238 => ((reed_Apart.f kj32 t223 (strOfNums x16_2)).bind fun bt240 => (if bt238.2 = 0 then (if bt240.2 = 0 then (if (bt238.1 == (x17_2 == 0)) = true then (some (bt240.1 == x17_2)) else (some false)) else (some false)) else (some false)))) = some r := by rw [if_neg (show ¬ (false = true) by decide)] at H; exact H
              clear H
              have H := H1
              clear H1
              replace H := Option.bind_eq_some_iff.mp H
              obtain ⟨⟨t238, t239⟩, A580, H⟩ := H
              replace H : ((reed_Apart.f kj32 t223 (strOfNums x16_2)).bind fun bt240 => (if t239 = 0 then (if bt240.2 = 0 then (if (t238 == (x17_2 == 0)) = true then (some (bt240.1 == x17_2)) else (some false)) else (some false)) else (some false))) = some r := H
              have A58 := Aside0.mk A580
              clear A580
              replace H := Option.bind_eq_some_iff.mp H
              obtain ⟨⟨t240, t241⟩, A590, H⟩ := H
              replace H : (if t239 = 0 then (if t241 = 0 then (if (t238 == (x17_2 == 0)) = true then (some (t240 == x17_2)) else (some false)) else (some false)) else (some false)) = some r := H
              have A59 := Aside0.mk A590
              clear A590
              by_cases c60 : t239 = 0
              ·rw [if_pos c60] at H
               have c60b0 : (t239 == 0) = true := beq_iff_eq.mpr c60
               have c60b1 : (t239 != 0) = false := bne_eq_false_iff_eq.mpr c60
               clear c60
               by_cases c61 : t241 = 0
               ·rw [if_pos c61] at H
                have c61b0 : (t241 == 0) = true := beq_iff_eq.mpr c61
                have c61b1 : (t241 != 0) = false := bne_eq_false_iff_eq.mpr c61
                clear c61
                by_cases c62 : (t238 == (x17_2 == 0)) = true
                ·rw [if_pos c62] at H
                 have c62b0 : (t238 == (x17_2 == 0)) = true := c62
                 (try (have c62b1 : decide (t238 = (x17_2 == 0)) = true := by simpa using c62))
                 (try (have c62b2 : (t238 == (x17_2 == 0)) = true := by simpa using c62))
                 clear c62
                 as_aux_lemma =>
                  obtain rfl := Option.some.inj H
                  obtain ⟨Ao63, co63, eo63, _⟩ := Kd.Q_slice HO_16.out
                  subst eo63
                  have hcv64 := Kd.C_string (P := Try.prog) (A := Ao63) (c := co63) Try.underlying29 Try.underlying5 Try.underlying9 (Kd.Q_reads' HO_16.out).2.2
                  go_wp2_with (first | ((with_reducible refine gate_callee (f := 21) rfl ?_); refine goesL_ (some 162) rfl rfl Try.func21 (by kernel_rfl) rfl #[.string (strOfNums x16_2), .int .i64 t220] rfl (by (try simp only [List.map_toArray, List.map_cons, List.map_nil]); first | done | rfl | (simp only [List.length_drop, List.length_take]; rfl)) ?_; (with_reducible refine (reed_Whole.calls kj32 (strOfNums x16_2) t220 t238 t239 _ A58.out).mono ?_); rintro e w65 ⟨rfl, hb⟩; refine ⟨_, rfl, ?_⟩; have n0_ := Aside0.mk (Kd.Q_below (by (with_reducible repeat (first | apply Kd.Q_alloc | apply Kd.Q_drewN | apply Kd.Q_drew)); exact HO_16.out) hb); have n1_ := Aside0.mk (below_step (by repeat (first | (with_reducible first | exact HB.out | apply below_alloc | apply pw_below_drewN | apply below_drew1) | exact HB.out)) hb); clear HO_16; clear HB; have HO_16 := n0_; have HB := n1_; clear n0_ n1_; (try clear hb); (try clear hb2); (try clear hk); (try clear hi); have hcv66 := Kd.C_string (P := Try.prog) (A := Ao63) (c := co63) Try.underlying29 Try.underlying5 Try.underlying9 (Kd.Q_reads' HO_16.out).2.2) | ((with_reducible refine gate_callee (f := 23) rfl ?_); refine goesL_ (some 169) rfl rfl Try.func23 (by kernel_rfl) rfl #[.string t223, .string (strOfNums x16_2)] rfl (by (try simp only [List.map_toArray, List.map_cons, List.map_nil]); first | done | rfl | (simp only [List.length_drop, List.length_take]; rfl)) ?_; (with_reducible refine (reed_Apart.calls kj32 t223 (strOfNums x16_2) t240 t241 _ A59.out).mono ?_); rintro e w' ⟨rfl, ⟨nd, rfl⟩⟩; refine ⟨_, rfl, ?_⟩))
                  go_ret
                  exact ⟨by first | rfl | (simp [errW_none, errW_some] <;> rfl) | (simp only [← hji9]; first | rfl | (simp [errW_none, errW_some] <;> rfl)) | (simp [*, errW_none, errW_some] <;> rfl), by repeat (first | (with_reducible first | exact HB.out | apply below_alloc | apply pw_below_drewN | apply below_drew1) | exact HB.out)⟩
                ·rw [if_neg c62] at H
                 have c62b0 : (t238 == (x17_2 == 0)) = false := by simpa using c62
                 (try (have c62b1 : decide (t238 = (x17_2 == 0)) = false := by simpa using c62))
                 (try (have c62b2 : (t238 == (x17_2 == 0)) = false := by simpa using c62))
                 (try (have c62b3 : ¬ (t238 = (x17_2 == 0)) := by simpa using c62))
                 clear c62
                 as_aux_lemma =>
                  exact absurd ((Option.some.inj H).trans HQ_.out) (by decide)
               ·rw [if_neg c61] at H
                have c61b0 : (t241 == 0) = false := beq_eq_false_iff_ne.mpr c61
                have c61b1 : (t241 != 0) = true := bne_iff_ne.mpr c61
                as_aux_lemma =>
                 exact absurd ((Option.some.inj H).trans HQ_.out) (by decide)
              ·rw [if_neg c60] at H
               have c60b0 : (t239 == 0) = false := beq_eq_false_iff_ne.mpr c60
               have c60b1 : (t239 != 0) = true := bne_iff_ne.mpr c60
               as_aux_lemma =>
                exact absurd ((Option.some.inj H).trans HQ_.out) (by decide)
        ·rw [if_neg c30] at H
         exact absurd H (by simp)
    ·rw [if_neg c13] at H
     exact absurd H (by simp)
   ·rw [if_neg c11] at H
    exact absurd H (by simp)
  ·rw [if_neg c10] at H
   exact absurd H (by simp)
 ·replace c6 := Bool.eq_false_iff.mpr c6
  subst c6
  have H1 : (some false) = some r := by rw [if_neg (show ¬ (false = true) by decide)] at H; exact H
  clear H
  have H := H1
  clear H1
  as_aux_lemma =>
   exact absurd ((Option.some.inj H).trans HQ_.out) (by decide)

theorem foghornlaw19_ReedApart.walk (P : foghornlaw19_ReedApart.Pure) (a0 : ByteArray) (a1 : ByteArray) (a2 : Int) (a3 : Option Addr) (len3 cap3 : Nat) (z3 : List Int) (w : World) (w0 : a0.size ≤ 140737488351232) (w1 : a1.size ≤ 140737488351232) (w2 : (Lit.int .i64 a2).wf = true) (w3 : (a3 = none ∧ len3 = 0 ∧ cap3 = 0 ∧ z3 = []) ∨ ∃ x, a3 = some x ∧ len3 ≤ cap3 ∧ cap3 ≤ maxLen ∧ z3.length = cap3 ∧ (∀ i, i < z3.length → w.cell? (x.add i) = some (.int .u8 (z3.getD i 0))) ∧ ∀ n ∈ z3, (Lit.int .u8 n).wf = true) (y3 : len3 * 1 ≤ 140737488351232) :
  Calls Try.prog 5 #[.string a0, .string a1, .int .i64 a2, .slice a3 len3 cap3] w fun e w' => e = .returned (.bool true) ∧ Below w.heap.size w w' := by
 obtain ⟨l3, rfl, hr3, hm3, hw3, hc3⟩ := ReadsInt.ofRowC w3
 obtain ⟨k, h⟩ := P a0 a1 a2 l3 w0 w1 w2 hm3 y3 hw3
 refine (foghornlaw19_ReedApart.calls k a0 a1 a2 _ _ l3 true w (Kd.C_of_reads (d := (0 : Int)) (h1 := fun _ => rfl) hr3) hc3 h rfl).mono ?_
 rintro e w' ⟨rfl, hd⟩
 exact ⟨rfl, hd⟩

end Go.Proofs.Ytncoakokdajibaa.Q
