-- Printed by myprint.py (ours) over the kit's printer, out of the translation.
import Derived.Test.YtncoakokdajibaaReedLinearK0
import Derived.Test.YtncoakokdajibaaReedLinearF0
import Derived.Test.YtncoakokdajibaaReedLinearQ1
import Derived.Test.YtncoakokdajibaaReedLinearQ2
namespace Go.Proofs.Ytncoakokdajibaa.Q
open Go.RowKit Go.Proofs.YtncoakokdajibaaW.PrintWords Go.Proofs.YtncoakokdajibaaW.PrintLast Go.Proofs.YtncoakokdajibaaW.PrintMore
attribute [local go_sem] ArrW.ptrOf_slice max2_int min2_int max_two min_two max_three min_three max_four min_four   -- for this text's walks alone
set_option linter.unusedVariables false
set_option linter.unusedSimpArgs false

/-! ### foghornlaw19_ReedLinear: function 3 -/
set_option maxHeartbeats 8000000 in
set_option maxRecDepth 100000 in
theorem foghornlaw19_ReedLinear.calls (k : Nat) (a0 : ByteArray) (a1 : ByteArray) (a2 : Int) (a3 : Int) (r : Bool) (w : World) (h : foghornlaw19_ReedLinear.f k a0 a1 a2 a3 = some r) (hq_ : r = true) :
  Calls Try.prog 3 #[.string a0, .string a1, .int .i64 a2, .int .u8 a3] w fun e w' => e = .returned (.bool r) ∧ Below w.heap.size w w' := by
 have HQ_ := Aside0.mk hq_
 clear hq_
 have HB := Aside0.mk (Below.refl w.heap.size w)
 have H : ((foghornlaw19_works.f k).bind fun t183 => (if t183 = true then ((foghornlaw19_fit.f a0 a2).bind fun bt184 => ((foghornlaw19_fit.f a1 (wrap64 ((wrap64 (Int.tdiv bt184.2 2)) - 1))).bind fun bt186 => (if 0 ≤ (mn (bt184.1.size : Int) (bt186.1.size : Int)) then (if (mn (bt184.1.size : Int) (bt186.1.size : Int)) ≤ (bt184.1.size : Int) then (if (mn (bt184.1.size : Int) (bt186.1.size : Int)) ≤ (bt186.1.size : Int) then ((reed_Encode.f k (bt184.1.extract 0 ((mn (bt184.1.size : Int) (bt186.1.size : Int)) : Int).toNat) bt184.2).bind fun bt188 => ((reed_Encode.f k (bt186.1.extract 0 ((mn (bt184.1.size : Int) (bt186.1.size : Int)) : Int).toNat) bt184.2).bind fun bt190 => ((foghornlaw19_over.f k (bt184.1.extract 0 ((mn (bt184.1.size : Int) (bt186.1.size : Int)) : Int).toNat) (bt186.1.extract 0 ((mn (bt184.1.size : Int) (bt186.1.size : Int)) : Int).toNat)).bind fun t192 => ((reed_Encode.f k t192 bt184.2).bind fun bt193 => (if bt188.2 = 0 then (if bt190.2 = 0 then (if bt193.2 = 0 then ((foghornlaw19_over.f k bt188.1 bt190.1).bind fun t195 => (if bt193.1.toList = t195.toList then (foghornlaw19_ReedLinear.j0 k (bt184.1.extract 0 ((mn (bt184.1.size : Int) (bt186.1.size : Int)) : Int).toNat) bt184.2 a3 bt188.1 ((bt193.1.size : Int) != (wrap64 ((mn (bt184.1.size : Int) (bt186.1.size : Int)) + bt184.2)))) else (foghornlaw19_ReedLinear.j0 k (bt184.1.extract 0 ((mn (bt184.1.size : Int) (bt186.1.size : Int)) : Int).toNat) bt184.2 a3 bt188.1 true))) else (foghornlaw19_ReedLinear.j0 k (bt184.1.extract 0 ((mn (bt184.1.size : Int) (bt186.1.size : Int)) : Int).toNat) bt184.2 a3 bt188.1 true)) else (foghornlaw19_ReedLinear.j0 k (bt184.1.extract 0 ((mn (bt184.1.size : Int) (bt186.1.size : Int)) : Int).toNat) bt184.2 a3 bt188.1 true)) else (foghornlaw19_ReedLinear.j0 k (bt184.1.extract 0 ((mn (bt184.1.size : Int) (bt186.1.size : Int)) : Int).toNat) bt184.2 a3 bt188.1 true)))))) else (none)) else (none)) else (none)))) else (some false))) = some r := h
 clear h
 replace H := Option.bind_eq_some_iff.mp H
 obtain ⟨t183, A50, H⟩ := H
 replace H : (if t183 = true then ((foghornlaw19_fit.f a0 a2).bind fun bt184 => ((foghornlaw19_fit.f a1 (wrap64 ((wrap64 (Int.tdiv bt184.2 2)) - 1))).bind fun bt186 => (if 0 ≤ (mn (bt184.1.size : Int) (bt186.1.size : Int)) then (if (mn (bt184.1.size : Int) (bt186.1.size : Int)) ≤ (bt184.1.size : Int) then (if (mn (bt184.1.size : Int) (bt186.1.size : Int)) ≤ (bt186.1.size : Int) then ((reed_Encode.f k (bt184.1.extract 0 ((mn (bt184.1.size : Int) (bt186.1.size : Int)) : Int).toNat) bt184.2).bind fun bt188 => ((reed_Encode.f k (bt186.1.extract 0 ((mn (bt184.1.size : Int) (bt186.1.size : Int)) : Int).toNat) bt184.2).bind fun bt190 => ((foghornlaw19_over.f k (bt184.1.extract 0 ((mn (bt184.1.size : Int) (bt186.1.size : Int)) : Int).toNat) (bt186.1.extract 0 ((mn (bt184.1.size : Int) (bt186.1.size : Int)) : Int).toNat)).bind fun t192 => ((reed_Encode.f k t192 bt184.2).bind fun bt193 => (if bt188.2 = 0 then (if bt190.2 = 0 then (if bt193.2 = 0 then ((foghornlaw19_over.f k bt188.1 bt190.1).bind fun t195 => (if bt193.1.toList = t195.toList then (foghornlaw19_ReedLinear.j0 k (bt184.1.extract 0 ((mn (bt184.1.size : Int) (bt186.1.size : Int)) : Int).toNat) bt184.2 a3 bt188.1 ((bt193.1.size : Int) != (wrap64 ((mn (bt184.1.size : Int) (bt186.1.size : Int)) + bt184.2)))) else (foghornlaw19_ReedLinear.j0 k (bt184.1.extract 0 ((mn (bt184.1.size : Int) (bt186.1.size : Int)) : Int).toNat) bt184.2 a3 bt188.1 true))) else (foghornlaw19_ReedLinear.j0 k (bt184.1.extract 0 ((mn (bt184.1.size : Int) (bt186.1.size : Int)) : Int).toNat) bt184.2 a3 bt188.1 true)) else (foghornlaw19_ReedLinear.j0 k (bt184.1.extract 0 ((mn (bt184.1.size : Int) (bt186.1.size : Int)) : Int).toNat) bt184.2 a3 bt188.1 true)) else (foghornlaw19_ReedLinear.j0 k (bt184.1.extract 0 ((mn (bt184.1.size : Int) (bt186.1.size : Int)) : Int).toNat) bt184.2 a3 bt188.1 true)))))) else (none)) else (none)) else (none)))) else (some false)) = some r := H
 have A5 := Aside0.mk A50
 clear A50
 by_cases c6 : t183 = true
 ·subst c6
  have H1 : ((foghornlaw19_fit.f a0 a2).bind fun bt184 => ((foghornlaw19_fit.f a1 (wrap64 ((wrap64 (Int.tdiv bt184.2 2)) - 1))).bind fun bt186 => (if 0 ≤ (mn (bt184.1.size : Int) (bt186.1.size : Int)) then (if (mn (bt184.1.size : Int) (bt186.1.size : Int)) ≤ (bt184.1.size : Int) then (if (mn (bt184.1.size : Int) (bt186.1.size : Int)) ≤ (bt186.1.size : Int) then ((reed_Encode.f k (bt184.1.extract 0 ((mn (bt184.1.size : Int) (bt186.1.size : Int)) : Int).toNat) bt184.2).bind fun bt188 => ((reed_Encode.f k (bt186.1.extract 0 ((mn (bt184.1.size : Int) (bt186.1.size : Int)) : Int).toNat) bt184.2).bind fun bt190 => ((foghornlaw19_over.f k (bt184.1.extract 0 ((mn (bt184.1.size : Int) (bt186.1.size : Int)) : Int).toNat) (bt186.1.extract 0 ((mn (bt184.1.size : Int) (bt186.1.size : Int)) : Int).toNat)).bind fun t192 => ((reed_Encode.f k t192 bt184.2).bind fun bt193 => (if bt188.2 = 0 then (if bt190.2 = 0 then (if bt193.2 = 0 then ((foghornlaw19_over.f k bt188.1 bt190.1).bind fun t195 => (if bt193.1.toList = t195.toList then (foghornlaw19_ReedLinear.j0 k (bt184.1.extract 0 ((mn (bt184.1.size : Int) (bt186.1.size : Int)) : Int).toNat) bt184.2 a3 bt188.1 ((bt193.1.size : Int) != (wrap64 ((mn (bt184.1.size : Int) (bt186.1.size : Int)) + bt184.2)))) else (foghornlaw19_ReedLinear.j0 k (bt184.1.extract 0 ((mn (bt184.1.size : Int) (bt186.1.size : Int)) : Int).toNat) bt184.2 a3 bt188.1 true))) else (foghornlaw19_ReedLinear.j0 k (bt184.1.extract 0 ((mn (bt184.1.size : Int) (bt186.1.size : Int)) : Int).toNat) bt184.2 a3 bt188.1 true)) else (foghornlaw19_ReedLinear.j0 k (bt184.1.extract 0 ((mn (bt184.1.size : Int) (bt186.1.size : Int)) : Int).toNat) bt184.2 a3 bt188.1 true)) else (foghornlaw19_ReedLinear.j0 k (bt184.1.extract 0 ((mn (bt184.1.size : Int) (bt186.1.size : Int)) : Int).toNat) bt184.2 a3 bt188.1 true)))))) else (none)) else (none)) else (none)))) = some r := by rw [if_pos rfl] at H; exact H
  clear H
  have H := H1
  clear H1
  replace H := Option.bind_eq_some_iff.mp H
  obtain ⟨⟨t184, t185⟩, A70, H⟩ := H
  replace H : ((foghornlaw19_fit.f a1 (wrap64 ((wrap64 (Int.tdiv t185 2)) - 1))).bind fun bt186 => (if 0 ≤ (mn (t184.size : Int) (bt186.1.size : Int)) then (if (mn (t184.size : Int) (bt186.1.size : Int)) ≤ (t184.size : Int) then (if (mn (t184.size : Int) (bt186.1.size : Int)) ≤ (bt186.1.size : Int) then ((reed_Encode.f k (t184.extract 0 ((mn (t184.size : Int) (bt186.1.size : Int)) : Int).toNat) t185).bind fun bt188 => ((reed_Encode.f k (bt186.1.extract 0 ((mn (t184.size : Int) (bt186.1.size : Int)) : Int).toNat) t185).bind fun bt190 => ((foghornlaw19_over.f k (t184.extract 0 ((mn (t184.size : Int) (bt186.1.size : Int)) : Int).toNat) (bt186.1.extract 0 ((mn (t184.size : Int) (bt186.1.size : Int)) : Int).toNat)).bind fun t192 => ((reed_Encode.f k t192 t185).bind fun bt193 => (if bt188.2 = 0 then (if bt190.2 = 0 then (if bt193.2 = 0 then ((foghornlaw19_over.f k bt188.1 bt190.1).bind fun t195 => (if bt193.1.toList = t195.toList then (foghornlaw19_ReedLinear.j0 k (t184.extract 0 ((mn (t184.size : Int) (bt186.1.size : Int)) : Int).toNat) t185 a3 bt188.1 ((bt193.1.size : Int) != (wrap64 ((mn (t184.size : Int) (bt186.1.size : Int)) + t185)))) else (foghornlaw19_ReedLinear.j0 k (t184.extract 0 ((mn (t184.size : Int) (bt186.1.size : Int)) : Int).toNat) t185 a3 bt188.1 true))) else (foghornlaw19_ReedLinear.j0 k (t184.extract 0 ((mn (t184.size : Int) (bt186.1.size : Int)) : Int).toNat) t185 a3 bt188.1 true)) else (foghornlaw19_ReedLinear.j0 k (t184.extract 0 ((mn (t184.size : Int) (bt186.1.size : Int)) : Int).toNat) t185 a3 bt188.1 true)) else (foghornlaw19_ReedLinear.j0 k (t184.extract 0 ((mn (t184.size : Int) (bt186.1.size : Int)) : Int).toNat) t185 a3 bt188.1 true)))))) else (none)) else (none)) else (none))) = some r := H
  have A7 := Aside0.mk A70
  clear A70
  replace H := Option.bind_eq_some_iff.mp H
  obtain ⟨⟨t186, t187⟩, A80, H⟩ := H
  replace H : (if 0 ≤ (mn (t184.size : Int) (t186.size : Int)) then (if (mn (t184.size : Int) (t186.size : Int)) ≤ (t184.size : Int) then (if (mn (t184.size : Int) (t186.size : Int)) ≤ (t186.size : Int) then ((reed_Encode.f k (t184.extract 0 ((mn (t184.size : Int) (t186.size : Int)) : Int).toNat) t185).bind fun bt188 => ((reed_Encode.f k (t186.extract 0 ((mn (t184.size : Int) (t186.size : Int)) : Int).toNat) t185).bind fun bt190 => ((foghornlaw19_over.f k (t184.extract 0 ((mn (t184.size : Int) (t186.size : Int)) : Int).toNat) (t186.extract 0 ((mn (t184.size : Int) (t186.size : Int)) : Int).toNat)).bind fun t192 => ((reed_Encode.f k t192 t185).bind fun bt193 => (if bt188.2 = 0 then (if bt190.2 = 0 then (if bt193.2 = 0 then ((foghornlaw19_over.f k bt188.1 bt190.1).bind fun t195 => (if bt193.1.toList = t195.toList then (foghornlaw19_ReedLinear.j0 k (t184.extract 0 ((mn (t184.size : Int) (t186.size : Int)) : Int).toNat) t185 a3 bt188.1 ((bt193.1.size : Int) != (wrap64 ((mn (t184.size : Int) (t186.size : Int)) + t185)))) else (foghornlaw19_ReedLinear.j0 k (t184.extract 0 ((mn (t184.size : Int) (t186.size : Int)) : Int).toNat) t185 a3 bt188.1 true))) else (foghornlaw19_ReedLinear.j0 k (t184.extract 0 ((mn (t184.size : Int) (t186.size : Int)) : Int).toNat) t185 a3 bt188.1 true)) else (foghornlaw19_ReedLinear.j0 k (t184.extract 0 ((mn (t184.size : Int) (t186.size : Int)) : Int).toNat) t185 a3 bt188.1 true)) else (foghornlaw19_ReedLinear.j0 k (t184.extract 0 ((mn (t184.size : Int) (t186.size : Int)) : Int).toNat) t185 a3 bt188.1 true)))))) else (none)) else (none)) else (none)) = some r := H
  have A8 := Aside0.mk A80
  clear A80
  obtain ⟨ji9, hji9⟩ : ∃ j_ : Int, (mn (t184.size : Int) (t186.size : Int)) = j_ := ⟨_, rfl⟩
  replace H : (if 0 ≤ (ji9) then (if (ji9) ≤ (t184.size : Int) then (if (ji9) ≤ (t186.size : Int) then ((reed_Encode.f k (t184.extract 0 ((ji9) : Int).toNat) t185).bind fun bt188 => ((reed_Encode.f k (t186.extract 0 ((ji9) : Int).toNat) t185).bind fun bt190 => ((foghornlaw19_over.f k (t184.extract 0 ((ji9) : Int).toNat) (t186.extract 0 ((ji9) : Int).toNat)).bind fun t192 => ((reed_Encode.f k t192 t185).bind fun bt193 => (if bt188.2 = 0 then (if bt190.2 = 0 then (if bt193.2 = 0 then ((foghornlaw19_over.f k bt188.1 bt190.1).bind fun t195 => (if bt193.1.toList = t195.toList then (foghornlaw19_ReedLinear.j0 k (t184.extract 0 ((ji9) : Int).toNat) t185 a3 bt188.1 ((bt193.1.size : Int) != (wrap64 ((ji9) + t185)))) else (foghornlaw19_ReedLinear.j0 k (t184.extract 0 ((ji9) : Int).toNat) t185 a3 bt188.1 true))) else (foghornlaw19_ReedLinear.j0 k (t184.extract 0 ((ji9) : Int).toNat) t185 a3 bt188.1 true)) else (foghornlaw19_ReedLinear.j0 k (t184.extract 0 ((ji9) : Int).toNat) t185 a3 bt188.1 true)) else (foghornlaw19_ReedLinear.j0 k (t184.extract 0 ((ji9) : Int).toNat) t185 a3 bt188.1 true)))))) else (none)) else (none)) else (none)) = some r := by first | (rw [hji9] at H; exact H) | (simp only [hji9] at H ⊢; exact H)
  (try rw [hji9] at A5)
  (try rw [hji9] at A7)
  (try rw [hji9] at A8)
  (try (have hji9l : 0 ≤ ji9 := by (rw [← hji9]; unfold mn; (repeat' split) <;> omega)))
  (try (have hji9m : 0 ≤ ji9 := by omega))
  have hji9_ : (if (t186.size : Int) < (t184.size : Int) then (t186.size : Int) else (t184.size : Int)) = ji9 := hji9
  (try have hji9n_ : (if t186.size < t184.size then (t186.size : Int) else (t184.size : Int)) = ji9 := by rw [← hji9_]; simp only [Int.ofNat_lt])
  by_cases c10 : 0 ≤ (ji9)
  ·rw [if_pos c10] at H
   have c10b0 := eq_true c10
   have c10b1 : decide (0 ≤ (ji9)) = true := decide_eq_true c10
   clear c10
   by_cases c11 : (ji9) ≤ (t184.size : Int)
   ·rw [if_pos c11] at H
    have c11b0 := eq_true c11
    have c11b1 : decide ((ji9) ≤ (t184.size : Int)) = true := decide_eq_true c11
    clear c11
    have c12b0 := eq_true (of_decide_eq_true (by first | (with_reducible assumption) | assumption) : 0 ≤ (ji9))
    by_cases c13 : (ji9) ≤ (t186.size : Int)
    ·rw [if_pos c13] at H
     have c13b0 := eq_true c13
     have c13b1 : decide ((ji9) ≤ (t186.size : Int)) = true := decide_eq_true c13
     clear c13
     replace H := Option.bind_eq_some_iff.mp H
     obtain ⟨⟨t188, t189⟩, A140, H⟩ := H
     replace H : ((reed_Encode.f k (t186.extract 0 ((ji9) : Int).toNat) t185).bind fun bt190 => ((foghornlaw19_over.f k (t184.extract 0 ((ji9) : Int).toNat) (t186.extract 0 ((ji9) : Int).toNat)).bind fun t192 => ((reed_Encode.f k t192 t185).bind fun bt193 => (if t189 = 0 then (if bt190.2 = 0 then (if bt193.2 = 0 then ((foghornlaw19_over.f k t188 bt190.1).bind fun t195 => (if bt193.1.toList = t195.toList then (foghornlaw19_ReedLinear.j0 k (t184.extract 0 ((ji9) : Int).toNat) t185 a3 t188 ((bt193.1.size : Int) != (wrap64 ((ji9) + t185)))) else (foghornlaw19_ReedLinear.j0 k (t184.extract 0 ((ji9) : Int).toNat) t185 a3 t188 true))) else (foghornlaw19_ReedLinear.j0 k (t184.extract 0 ((ji9) : Int).toNat) t185 a3 t188 true)) else (foghornlaw19_ReedLinear.j0 k (t184.extract 0 ((ji9) : Int).toNat) t185 a3 t188 true)) else (foghornlaw19_ReedLinear.j0 k (t184.extract 0 ((ji9) : Int).toNat) t185 a3 t188 true))))) = some r := H
     have A14 := Aside0.mk A140
     clear A140
     replace H := Option.bind_eq_some_iff.mp H
     obtain ⟨⟨t190, t191⟩, A150, H⟩ := H
     replace H : ((foghornlaw19_over.f k (t184.extract 0 ((ji9) : Int).toNat) (t186.extract 0 ((ji9) : Int).toNat)).bind fun t192 => ((reed_Encode.f k t192 t185).bind fun bt193 => (if t189 = 0 then (if t191 = 0 then (if bt193.2 = 0 then ((foghornlaw19_over.f k t188 t190).bind fun t195 => (if bt193.1.toList = t195.toList then (foghornlaw19_ReedLinear.j0 k (t184.extract 0 ((ji9) : Int).toNat) t185 a3 t188 ((bt193.1.size : Int) != (wrap64 ((ji9) + t185)))) else (foghornlaw19_ReedLinear.j0 k (t184.extract 0 ((ji9) : Int).toNat) t185 a3 t188 true))) else (foghornlaw19_ReedLinear.j0 k (t184.extract 0 ((ji9) : Int).toNat) t185 a3 t188 true)) else (foghornlaw19_ReedLinear.j0 k (t184.extract 0 ((ji9) : Int).toNat) t185 a3 t188 true)) else (foghornlaw19_ReedLinear.j0 k (t184.extract 0 ((ji9) : Int).toNat) t185 a3 t188 true)))) = some r := H
     have A15 := Aside0.mk A150
     clear A150
     replace H := Option.bind_eq_some_iff.mp H
     obtain ⟨t192, A160, H⟩ := H
     replace H : ((reed_Encode.f k t192 t185).bind fun bt193 => (if t189 = 0 then (if t191 = 0 then (if bt193.2 = 0 then ((foghornlaw19_over.f k t188 t190).bind fun t195 => (if bt193.1.toList = t195.toList then (foghornlaw19_ReedLinear.j0 k (t184.extract 0 ((ji9) : Int).toNat) t185 a3 t188 ((bt193.1.size : Int) != (wrap64 ((ji9) + t185)))) else (foghornlaw19_ReedLinear.j0 k (t184.extract 0 ((ji9) : Int).toNat) t185 a3 t188 true))) else (foghornlaw19_ReedLinear.j0 k (t184.extract 0 ((ji9) : Int).toNat) t185 a3 t188 true)) else (foghornlaw19_ReedLinear.j0 k (t184.extract 0 ((ji9) : Int).toNat) t185 a3 t188 true)) else (foghornlaw19_ReedLinear.j0 k (t184.extract 0 ((ji9) : Int).toNat) t185 a3 t188 true))) = some r := H
     have A16 := Aside0.mk A160
     clear A160
     replace H := Option.bind_eq_some_iff.mp H
     obtain ⟨⟨t193, t194⟩, A170, H⟩ := H
     replace H : (if t189 = 0 then (if t191 = 0 then (if t194 = 0 then ((foghornlaw19_over.f k t188 t190).bind fun t195 => (if t193.toList = t195.toList then (foghornlaw19_ReedLinear.j0 k (t184.extract 0 ((ji9) : Int).toNat) t185 a3 t188 ((t193.size : Int) != (wrap64 ((ji9) + t185)))) else (foghornlaw19_ReedLinear.j0 k (t184.extract 0 ((ji9) : Int).toNat) t185 a3 t188 true))) else (foghornlaw19_ReedLinear.j0 k (t184.extract 0 ((ji9) : Int).toNat) t185 a3 t188 true)) else (foghornlaw19_ReedLinear.j0 k (t184.extract 0 ((ji9) : Int).toNat) t185 a3 t188 true)) else (foghornlaw19_ReedLinear.j0 k (t184.extract 0 ((ji9) : Int).toNat) t185 a3 t188 true)) = some r := H
     have A17 := Aside0.mk A170
     clear A170
     have HC18 := Aside0.mk H
     clear H
     go_enter Try.func3, Try.ntmps3
     go_upto_region 11 with (first | ((with_reducible refine gate_callee (f := 17) rfl ?_); refine goesL_ (some 19) rfl rfl Try.func17 (by kernel_rfl) rfl #[] rfl (by (try simp only [List.map_toArray, List.map_cons, List.map_nil]); first | done | rfl | (simp only [List.length_drop, List.length_take]; rfl)) ?_; (with_reducible refine (foghornlaw19_works.calls k  true _ A5.out).mono ?_); rintro e w19 ⟨rfl, hb⟩; refine ⟨_, rfl, ?_⟩; have n0_ := Aside0.mk (below_step (by repeat (first | (with_reducible first | exact HB.out | apply below_alloc | apply pw_below_drewN | apply below_drew1) | exact HB.out)) hb); clear HB; have HB := n0_; clear n0_; (try clear hb); (try clear hb2); (try clear hk); (try clear hi)) | ((with_reducible refine gate_callee (f := 18) rfl ?_); refine goesL_ (some 24) rfl rfl Try.func18 (by kernel_rfl) rfl #[.string a0, .int .i64 a2] rfl (by (try simp only [List.map_toArray, List.map_cons, List.map_nil]); first | done | rfl | (simp only [List.length_drop, List.length_take]; rfl)) ?_; (with_reducible refine (foghornlaw19_fit.calls a0 a2 t184 t185 _ A7.out).mono ?_); rintro e w20 ⟨rfl, hb⟩; refine ⟨_, rfl, ?_⟩; have n0_ := Aside0.mk (below_step (by repeat (first | (with_reducible first | exact HB.out | apply below_alloc | apply pw_below_drewN | apply below_drew1) | exact HB.out)) hb); clear HB; have HB := n0_; clear n0_; (try clear hb); (try clear hb2); (try clear hk); (try clear hi)) | ((with_reducible refine gate_callee (f := 18) rfl ?_); refine goesL_ (some 32) rfl rfl Try.func18 (by kernel_rfl) rfl #[.string a1, .int .i64 (wrap64 ((wrap64 (Int.tdiv t185 2)) - 1))] rfl (by (try simp only [List.map_toArray, List.map_cons, List.map_nil]); first | done | rfl | (simp only [List.length_drop, List.length_take]; rfl)) ?_; (with_reducible refine (foghornlaw19_fit.calls a1 (wrap64 ((wrap64 (Int.tdiv t185 2)) - 1)) t186 t187 _ A8.out).mono ?_); rintro e w21 ⟨rfl, hb⟩; refine ⟨_, rfl, ?_⟩; have n0_ := Aside0.mk (below_step (by repeat (first | (with_reducible first | exact HB.out | apply below_alloc | apply pw_below_drewN | apply below_drew1) | exact HB.out)) hb); clear HB; have HB := n0_; clear n0_; (try clear hb); (try clear hb2); (try clear hk); (try clear hi)) | ((with_reducible refine gate_callee (f := 19) rfl ?_); refine goesL_ (some 49) rfl rfl Try.func19 (by kernel_rfl) rfl #[.string (t184.extract 0 ((ji9) : Int).toNat), .int .i64 t185] rfl (by (try simp only [List.map_toArray, List.map_cons, List.map_nil]); first | done | (simp only [hji9]; rfl) | rfl | (simp only [List.length_drop, List.length_take]; rfl)) ?_; (with_reducible refine (reed_Encode.calls k (t184.extract 0 ((ji9) : Int).toNat) t185 t188 t189 _ A14.out).mono ?_); rintro e w22 ⟨rfl, hb⟩; refine ⟨_, rfl, ?_⟩; have n0_ := Aside0.mk (below_step (by repeat (first | (with_reducible first | exact HB.out | apply below_alloc | apply pw_below_drewN | apply below_drew1) | exact HB.out)) hb); clear HB; have HB := n0_; clear n0_; (try clear hb); (try clear hb2); (try clear hk); (try clear hi)) | ((with_reducible refine gate_callee (f := 19) rfl ?_); refine goesL_ (some 55) rfl rfl Try.func19 (by kernel_rfl) rfl #[.string (t186.extract 0 ((ji9) : Int).toNat), .int .i64 t185] rfl (by (try simp only [List.map_toArray, List.map_cons, List.map_nil]); first | done | (simp only [hji9]; rfl) | rfl | (simp only [List.length_drop, List.length_take]; rfl)) ?_; (with_reducible refine (reed_Encode.calls k (t186.extract 0 ((ji9) : Int).toNat) t185 t190 t191 _ A15.out).mono ?_); rintro e w23 ⟨rfl, hb⟩; refine ⟨_, rfl, ?_⟩; have n0_ := Aside0.mk (below_step (by repeat (first | (with_reducible first | exact HB.out | apply below_alloc | apply pw_below_drewN | apply below_drew1) | exact HB.out)) hb); clear HB; have HB := n0_; clear n0_; (try clear hb); (try clear hb2); (try clear hk); (try clear hi)) | ((with_reducible refine gate_callee (f := 20) rfl ?_); refine goesL_ (some 61) rfl rfl Try.func20 (by kernel_rfl) rfl #[.string (t184.extract 0 ((ji9) : Int).toNat), .string (t186.extract 0 ((ji9) : Int).toNat)] rfl (by (try simp only [List.map_toArray, List.map_cons, List.map_nil]); first | done | (simp only [hji9]; rfl) | rfl | (simp only [List.length_drop, List.length_take]; rfl)) ?_; (with_reducible refine (foghornlaw19_over.calls k (t184.extract 0 ((ji9) : Int).toNat) (t186.extract 0 ((ji9) : Int).toNat) t192 _ A16.out).mono ?_); rintro e w24 ⟨rfl, hb⟩; refine ⟨_, rfl, ?_⟩; have n0_ := Aside0.mk (below_step (by repeat (first | (with_reducible first | exact HB.out | apply below_alloc | apply pw_below_drewN | apply below_drew1) | exact HB.out)) hb); clear HB; have HB := n0_; clear n0_; (try clear hb); (try clear hb2); (try clear hk); (try clear hi)) | ((with_reducible refine gate_callee (f := 19) rfl ?_); refine goesL_ (some 63) rfl rfl Try.func19 (by kernel_rfl) rfl #[.string t192, .int .i64 t185] rfl (by (try simp only [List.map_toArray, List.map_cons, List.map_nil]); first | done | rfl | (simp only [List.length_drop, List.length_take]; rfl)) ?_; (with_reducible refine (reed_Encode.calls k t192 t185 t193 t194 _ A17.out).mono ?_); rintro e w25 ⟨rfl, hb⟩; refine ⟨_, rfl, ?_⟩; have n0_ := Aside0.mk (below_step (by repeat (first | (with_reducible first | exact HB.out | apply below_alloc | apply pw_below_drewN | apply below_drew1) | exact HB.out)) hb); clear HB; have HB := n0_; clear n0_; (try clear hb); (try clear hb2); (try clear hk); (try clear hi)))
     (try simp only [Act.put, List.setIfInBounds_toArray, List.set_cons_zero, List.set_cons_succ])
     go_cut [90] (fun v90 wc => ∃ (kq : Nat) (x90_17 : Bool), v90 = .bool x90_17 ∧ Aside0 (foghornlaw19_ReedLinear.j0 kq (t184.extract 0 ((ji9) : Int).toNat) t185 a3 t188 x90_17 = some r) ∧ Aside0 (kq ≤ k) ∧ Aside0 (Below w.heap.size w wc))
     case first =>
      have H := HC18.out
      clear HC18
      by_cases c26 : t189 = 0
      ·rw [if_pos c26] at H
       have c26b0 : (t189 == 0) = true := beq_iff_eq.mpr c26
       have c26b1 : (t189 != 0) = false := bne_eq_false_iff_eq.mpr c26
       clear c26
       (first | rw [c26b0] | (simp only [i64_w, i32_w]; rw [c26b0]) | skip)
       by_cases c27 : t191 = 0
       ·rw [if_pos c27] at H
        have c27b0 : (t191 == 0) = true := beq_iff_eq.mpr c27
        have c27b1 : (t191 != 0) = false := bne_eq_false_iff_eq.mpr c27
        clear c27
        by_cases c28 : t194 = 0
        ·rw [if_pos c28] at H
         have c28b0 : (t194 == 0) = true := beq_iff_eq.mpr c28
         have c28b1 : (t194 != 0) = false := bne_eq_false_iff_eq.mpr c28
         clear c28
         replace H := Option.bind_eq_some_iff.mp H
         obtain ⟨t195, A290, H⟩ := H
         replace H : (if t193.toList = t195.toList then (foghornlaw19_ReedLinear.j0 k (t184.extract 0 ((ji9) : Int).toNat) t185 a3 t188 ((t193.size : Int) != (wrap64 ((ji9) + t185)))) else (foghornlaw19_ReedLinear.j0 k (t184.extract 0 ((ji9) : Int).toNat) t185 a3 t188 true)) = some r := H
         have A29 := Aside0.mk A290
         clear A290
         by_cases c30 : t193.toList = t195.toList
         ·rw [if_pos c30] at H
          have c30b0 : (t193.toList == t195.toList) = true := beq_iff_eq.mpr c30
          have c30b1 : (t193.toList != t195.toList) = false := bne_eq_false_iff_eq.mpr c30
          clear c30
          as_aux_lemma =>
           have H' := Aside0.mk H
           clear H
           go_wp2_with (first | (go_at_call 20; (with_reducible refine (foghornlaw19_over.calls k t188 t190 t195 _ A29.out).mono ?_); rintro e w31 ⟨rfl, hb⟩; have n0_ := Aside0.mk (below_step (by repeat (first | (with_reducible first | exact HB.out | apply below_alloc | apply pw_below_drewN | apply below_drew1) | exact HB.out)) hb); clear HB; have HB := n0_; clear n0_; (try clear hb); (try clear hb2); (try clear hk); (try clear hi)))
           go_meet
           case rel => exact ⟨_, (((t193.size : Int) != (wrap64 ((ji9) + t185)))), (by first | rfl | (simp; done) | (simp only [← hji9] <;> (first | rfl | simp)) | (simp [*]; done)), H', ⟨by first | omega | exact Nat.le_refl _⟩, ⟨by repeat (first | (with_reducible first | exact HB.out | apply below_alloc | apply pw_below_drewN | apply below_drew1) | exact HB.out)⟩⟩
         ·rw [if_neg c30] at H
          have c30b0 : (t193.toList == t195.toList) = false := beq_eq_false_iff_ne.mpr c30
          have c30b1 : (t193.toList != t195.toList) = true := bne_iff_ne.mpr c30
          as_aux_lemma =>
           have H' := Aside0.mk H
           clear H
           go_wp2_with (first | (go_at_call 20; (with_reducible refine (foghornlaw19_over.calls k t188 t190 t195 _ A29.out).mono ?_); rintro e w32 ⟨rfl, hb⟩; have n0_ := Aside0.mk (below_step (by repeat (first | (with_reducible first | exact HB.out | apply below_alloc | apply pw_below_drewN | apply below_drew1) | exact HB.out)) hb); clear HB; have HB := n0_; clear n0_; (try clear hb); (try clear hb2); (try clear hk); (try clear hi)))
           go_meet
           case rel => exact ⟨_, (true), (by first | rfl | (simp; done) | (simp [*]; done)), H', ⟨by first | omega | exact Nat.le_refl _⟩, ⟨by repeat (first | (with_reducible first | exact HB.out | apply below_alloc | apply pw_below_drewN | apply below_drew1) | exact HB.out)⟩⟩
        ·rw [if_neg c28] at H
         have c28b0 : (t194 == 0) = false := beq_eq_false_iff_ne.mpr c28
         have c28b1 : (t194 != 0) = true := bne_iff_ne.mpr c28
         as_aux_lemma =>
          have H' := Aside0.mk H
          clear H
          go_wp2
          go_meet
          case rel => exact ⟨_, (true), (by first | rfl | (simp; done) | (simp [*]; done)), H', ⟨by first | omega | exact Nat.le_refl _⟩, ⟨by repeat (first | (with_reducible first | exact HB.out | apply below_alloc | apply pw_below_drewN | apply below_drew1) | exact HB.out)⟩⟩
       ·rw [if_neg c27] at H
        have c27b0 : (t191 == 0) = false := beq_eq_false_iff_ne.mpr c27
        have c27b1 : (t191 != 0) = true := bne_iff_ne.mpr c27
        as_aux_lemma =>
         have H' := Aside0.mk H
         clear H
         go_wp2
         go_meet
         case rel => exact ⟨_, (true), (by first | rfl | (simp; done) | (simp [*]; done)), H', ⟨by first | omega | exact Nat.le_refl _⟩, ⟨by repeat (first | (with_reducible first | exact HB.out | apply below_alloc | apply pw_below_drewN | apply below_drew1) | exact HB.out)⟩⟩
      ·rw [if_neg c26] at H
       have c26b0 : (t189 == 0) = false := beq_eq_false_iff_ne.mpr c26
       have c26b1 : (t189 != 0) = true := bne_iff_ne.mpr c26
       (first | rw [c26b0] | (simp only [i64_w, i32_w]; rw [c26b0]) | skip)
       as_aux_lemma =>
        have H' := Aside0.mk H
        clear H
        go_wp2
        go_meet
        case rel => exact ⟨_, (true), (by first | rfl | (simp; done) | (simp [*]; done)), H', ⟨by first | omega | exact Nat.le_refl _⟩, ⟨by repeat (first | (with_reducible first | exact HB.out | apply below_alloc | apply pw_below_drewN | apply below_drew1) | exact HB.out)⟩⟩
     case rest =>
      clear HC18
      try clear c1
      try clear c2
      try clear p2
      try clear c3
      try clear c6
      try clear p6
      try clear c10
      try clear c10b0
      try clear c10b1
      try clear c11
      try clear c11b0
      try clear c11b1
      try clear c12
      try clear c12b0
      try clear c13
      try clear c13b0
      try clear c13b1
      try clear c17
      try clear c18
      try clear c19
      try clear c20
      try clear c26
      try clear c26b0
      try clear c26b1
      try clear c27
      try clear c27b0
      try clear c27b1
      try clear c28
      try clear c28b0
      try clear c28b1
      try clear c30
      try clear c30b0
      try clear c30b1
      obtain ⟨kq, x90_17, rfl, HA, HJ17, HB⟩ := hcut
      cases kq with
      | zero => exact absurd HA.out (by simp [foghornlaw19_ReedLinear.j0])
      | succ kj17 =>
       have H := HA.out
       clear HA
       simp only [foghornlaw19_ReedLinear.j0] at H
       by_cases c33 : x90_17 = true
       ·subst c33
        have H1 : (some false) = some r := by rw [if_pos rfl] at H; exact H
        clear H
        have H := H1
        clear H1
        as_aux_lemma =>
         exact absurd ((Option.some.inj H).trans HQ_.out) (by decide)
       ·replace c33 := Bool.eq_false_iff.mpr c33
        subst c33
        have H1 : (if 0 ≤ (mn (wrap64 (a3)) (wrap64 (255 - (t188.size : Int)))) then (if (mn (wrap64 (a3)) (wrap64 (255 - (t188.size : Int))) : Int).toNat ≤ 281474976710656 then ((some (List.replicate (mn (wrap64 (a3)) (wrap64 (255 - (t188.size : Int))) : Int).toNat 0 : List Int)).bind fun y196 => (if (strOfNums y196).size + (t184.extract 0 ((ji9) : Int).toNat).size ≤ 9223372036854775807 then ((reed_Encode.f kj17 ((strOfNums y196) ++ (t184.extract 0 ((ji9) : Int).toNat)) t185).bind fun bt199 => (if (strOfNums y196).size + t188.size ≤ 9223372036854775807 then ((reed_Whole.f kj17 ((strOfNums y196) ++ t188) t185).bind fun bt201 => (if bt199.2 = 0 then (if bt201.2 = 0 then (if bt201.1 = true then (some (bt199.1.toList == ((strOfNums y196) ++ t188).toList)) else (some false)) else (some false)) else (some false))) else (none))) else (none))) else (none)) else (none)) = some r := by rw [if_neg (show ¬ (false = true) by decide)] at H; exact H
        clear H
        have H := H1
        clear H1
        obtain ⟨ji34, hji34⟩ : ∃ j_ : Int, (mn (wrap64 (a3)) (wrap64 (255 - (t188.size : Int)))) = j_ := ⟨_, rfl⟩
        replace H : (if 0 ≤ (ji34) then (if (ji34 : Int).toNat ≤ 281474976710656 then ((some (List.replicate (ji34 : Int).toNat 0 : List Int)).bind fun y196 => (if (strOfNums y196).size + (t184.extract 0 ((ji9) : Int).toNat).size ≤ 9223372036854775807 then ((reed_Encode.f kj17 ((strOfNums y196) ++ (t184.extract 0 ((ji9) : Int).toNat)) t185).bind fun bt199 => (if (strOfNums y196).size + t188.size ≤ 9223372036854775807 then ((reed_Whole.f kj17 ((strOfNums y196) ++ t188) t185).bind fun bt201 => (if bt199.2 = 0 then (if bt201.2 = 0 then (if bt201.1 = true then (some (bt199.1.toList == ((strOfNums y196) ++ t188).toList)) else (some false)) else (some false)) else (some false))) else (none))) else (none))) else (none)) else (none)) = some r := by first | (rw [hji34] at H; exact H) | (simp only [hji34] at H ⊢; exact H)
        have hji34_ : (if (wrap64 (255 - (t188.size : Int))) < (wrap64 (a3)) then (wrap64 (255 - (t188.size : Int))) else (wrap64 (a3))) = ji34 := hji34
        by_cases c35 : 0 ≤ (ji34)
        ·rw [if_pos c35] at H
         have c35b0 := eq_true c35
         have c35b1 : decide (0 ≤ (ji34)) = true := decide_eq_true c35
         clear c35
         by_cases c36 : (ji34 : Int).toNat ≤ 281474976710656
         ·rw [if_pos c36] at H
          have c36b0 := eq_true c36
          have c36b1 : decide ((ji34 : Int).toNat ≤ 281474976710656) = true := decide_eq_true c36
          clear c36
          obtain ⟨y196, hy196⟩ : ∃ y_ : List Int, y_ = (List.replicate (ji34 : Int).toNat 0) := ⟨_, rfl⟩
          replace H : (if (strOfNums y196).size + (t184.extract 0 ((ji9) : Int).toNat).size ≤ 9223372036854775807 then ((reed_Encode.f kj17 ((strOfNums y196) ++ (t184.extract 0 ((ji9) : Int).toNat)) t185).bind fun bt199 => (if (strOfNums y196).size + t188.size ≤ 9223372036854775807 then ((reed_Whole.f kj17 ((strOfNums y196) ++ t188) t185).bind fun bt201 => (if bt199.2 = 0 then (if bt201.2 = 0 then (if bt201.1 = true then (some (bt199.1.toList == ((strOfNums y196) ++ t188).toList)) else (some false)) else (some false)) else (some false))) else (none))) else (none)) = some r := by first | (rw [hy196]; with_reducible exact H) | (have H2_ := (Option.bind_some _ _).symm.trans H; rw [hy196]; with_reducible exact H2_) | (have H2_ := (Option.bind_some _ _).symm.trans H; with_reducible exact H2_) | with_reducible exact H | (rw [hy196]; exact H) | exact H
          have Ny196 := Aside0.mk hy196
          clear hy196
          by_cases c37 : (strOfNums y196).size + (t184.extract 0 ((ji9) : Int).toNat).size ≤ 9223372036854775807
          ·rw [if_pos c37] at H
           have c37b0 := eq_true c37
           have c37b1 : decide ((strOfNums y196).size + (t184.extract 0 ((ji9) : Int).toNat).size ≤ 9223372036854775807) = true := decide_eq_true c37
           try have c37b2 : (9223372036854775807 < (strOfNums y196).size + (t184.extract 0 ((ji9) : Int).toNat).size) = False := eq_false (Nat.not_lt.2 c37)
           replace H := Option.bind_eq_some_iff.mp H
           obtain ⟨⟨t199, t200⟩, A380, H⟩ := H
           replace H : (if (strOfNums y196).size + t188.size ≤ 9223372036854775807 then ((reed_Whole.f kj17 ((strOfNums y196) ++ t188) t185).bind fun bt201 => (if t200 = 0 then (if bt201.2 = 0 then (if bt201.1 = true then (some (t199.toList == ((strOfNums y196) ++ t188).toList)) else (some false)) else (some false)) else (some false))) else (none)) = some r := H
           have A38 := Aside0.mk A380
           clear A380
           by_cases c39 : (strOfNums y196).size + t188.size ≤ 9223372036854775807
           ·rw [if_pos c39] at H
            have c39b0 := eq_true c39
            have c39b1 : decide ((strOfNums y196).size + t188.size ≤ 9223372036854775807) = true := decide_eq_true c39
            try have c39b2 : (9223372036854775807 < (strOfNums y196).size + t188.size) = False := eq_false (Nat.not_lt.2 c39)
            replace H := Option.bind_eq_some_iff.mp H
            obtain ⟨⟨t201, t202⟩, A400, H⟩ := H
            replace H : (if t200 = 0 then (if t202 = 0 then (if t201 = true then (some (t199.toList == ((strOfNums y196) ++ t188).toList)) else (some false)) else (some false)) else (some false)) = some r := H
            have A40 := Aside0.mk A400
            clear A400
            by_cases c41 : t200 = 0
            ·rw [if_pos c41] at H
             have c41b0 : (t200 == 0) = true := beq_iff_eq.mpr c41
             have c41b1 : (t200 != 0) = false := bne_eq_false_iff_eq.mpr c41
             clear c41
             by_cases c42 : t202 = 0
             ·rw [if_pos c42] at H
              have c42b0 : (t202 == 0) = true := beq_iff_eq.mpr c42
              have c42b1 : (t202 != 0) = false := bne_eq_false_iff_eq.mpr c42
              clear c42
              by_cases c43 : t201 = true
              ·subst c43
               have H1 : (some (t199.toList == ((strOfNums y196) ++ t188).toList)) = some r := by rw [if_pos rfl] at H; exact H
               clear H
               have H := H1
               clear H1
               as_aux_lemma =>
                obtain rfl := Option.some.inj H
                have hz0_ : wrap64 (255 - (t188.size : Int)) = 255 - (t188.size : Int) := by have h_ := of_decide_eq_true c39b1; unfold wrap64; omega
                have hz1_ : (if (255 - (t188.size : Int)) < (wrap64 (a3)) then (255 - (t188.size : Int)) else (wrap64 (a3))) = ji34 := by rw [← hji34_, hz0_]
                go_wp2_with (first | ((with_reducible refine gate_dst (N := 97) rfl ?_); (try (refine gate_guard (by rfl) ?_; dsimp only)); refine Kd.R_make (Kd.int .u8) _ 5 rfl (N := 97) rfl 29 _ _ rfl ji34 rfl rfl Try.underlying29 (.int .u8 0) 1 info5 rfl (by decide) (by omega) 0 (ok := fun _ => True) (okp := fun _ => True) rfl (fun _ hk => hk) trivial (of_decide_eq_true (by first | (with_reducible assumption) | assumption)) (Nat.le_trans (Nat.mul_le_mul_right _ (of_decide_eq_true (by first | (with_reducible assumption) | assumption) : ji34.toNat ≤ 281474976710656)) (by omega)) (Below.refl _ _) (Nat.le_refl _) ?_; intro v197 w44 ho45 hb hg_ hnew_; clear hg_ hnew_; (first | rw [← Ny196.out] at ho45 | (simp only [Int.reduceToNat] at ho45; rw [← Ny196.out] at ho45)); have n0_ := Aside0.mk (Kd.R_lower ho45 (below_size (by repeat (first | (with_reducible first | exact HB.out | apply below_alloc | apply pw_below_drewN | apply below_drew1) | exact HB.out)))); have n1_ := Aside0.mk (below_step (by repeat (first | (with_reducible first | exact HB.out | apply below_alloc | apply pw_below_drewN | apply below_drew1) | exact HB.out)) hb); clear HB; have HO198 := n0_; have HB := n1_; clear n0_ n1_; clear hb ho45; have hcv46 := own_string (P := Try.prog) Try.underlying29 Try.underlying5 Try.underlying9 (Kd.own_of_R HO198.out)) | ((with_reducible refine gate_callee (f := 19) rfl ?_); refine goesL_ (some 104) rfl rfl Try.func19 (by kernel_rfl) rfl #[.string ((strOfNums y196) ++ (t184.extract 0 ((ji9) : Int).toNat)), .int .i64 t185] rfl (by (try simp only [List.map_toArray, List.map_cons, List.map_nil]); first | done | (simp only [hji9]; rfl) | rfl | (simp only [List.length_drop, List.length_take]; rfl)) ?_; (with_reducible refine (reed_Encode.calls kj17 ((strOfNums y196) ++ (t184.extract 0 ((ji9) : Int).toNat)) t185 t199 t200 _ A38.out).mono ?_); rintro e w47 ⟨rfl, hb⟩; refine ⟨_, rfl, ?_⟩; have n0_ := Aside0.mk (Kd.R_below (by (with_reducible repeat (first | apply Kd.R_alloc | apply Kd.R_drewN | apply Kd.R_drew)); exact HO198.out) hb); have n1_ := Aside0.mk (below_step (by repeat (first | (with_reducible first | exact HB.out | apply below_alloc | apply pw_below_drewN | apply below_drew1) | exact HB.out)) hb); clear HO198; clear HB; have HO198 := n0_; have HB := n1_; clear n0_ n1_; (try clear hb); (try clear hb2); (try clear hk); (try clear hi)) | ((with_reducible refine gate_callee (f := 21) rfl ?_); refine goesL_ (some 112) rfl rfl Try.func21 (by kernel_rfl) rfl #[.string ((strOfNums y196) ++ t188), .int .i64 t185] rfl (by (try simp only [List.map_toArray, List.map_cons, List.map_nil]); first | done | rfl | (simp only [List.length_drop, List.length_take]; rfl)) ?_; (with_reducible refine (reed_Whole.calls kj17 ((strOfNums y196) ++ t188) t185 true t202 _ A40.out).mono ?_); rintro e w48 ⟨rfl, hb⟩; refine ⟨_, rfl, ?_⟩; have n0_ := Aside0.mk (Kd.R_below (by (with_reducible repeat (first | apply Kd.R_alloc | apply Kd.R_drewN | apply Kd.R_drew)); exact HO198.out) hb); have n1_ := Aside0.mk (below_step (by repeat (first | (with_reducible first | exact HB.out | apply below_alloc | apply pw_below_drewN | apply below_drew1) | exact HB.out)) hb); clear HO198; clear HB; have HO198 := n0_; have HB := n1_; clear n0_ n1_; (try clear hb); (try clear hb2); (try clear hk); (try clear hi)))
                go_ret
                exact ⟨by first | rfl | (simp [errW_none, errW_some] <;> rfl) | (simp only [← hji9, ← hji34]; first | rfl | (simp [errW_none, errW_some] <;> rfl)) | (simp [*, errW_none, errW_some] <;> rfl), by repeat (first | (with_reducible first | exact HB.out | apply below_alloc | apply pw_below_drewN | apply below_drew1) | exact HB.out)⟩
              ·replace c43 := Bool.eq_false_iff.mpr c43
               subst c43
               have H1 : (some false) = some r := by rw [if_neg (show ¬ (false = true) by decide)] at H; exact H
               clear H
               have H := H1
               clear H1
               as_aux_lemma =>
                exact absurd ((Option.some.inj H).trans HQ_.out) (by decide)
             ·rw [if_neg c42] at H
              have c42b0 : (t202 == 0) = false := beq_eq_false_iff_ne.mpr c42
              have c42b1 : (t202 != 0) = true := bne_iff_ne.mpr c42
              as_aux_lemma =>
               exact absurd ((Option.some.inj H).trans HQ_.out) (by decide)
            ·rw [if_neg c41] at H
             have c41b0 : (t200 == 0) = false := beq_eq_false_iff_ne.mpr c41
             have c41b1 : (t200 != 0) = true := bne_iff_ne.mpr c41
             as_aux_lemma =>
              exact absurd ((Option.some.inj H).trans HQ_.out) (by decide)
           ·rw [if_neg c39] at H
            exact absurd H (by simp)
          ·rw [if_neg c37] at H
           exact absurd H (by simp)
         ·rw [if_neg c36] at H
          exact absurd H (by simp)
        ·rw [if_neg c35] at H
         exact absurd H (by simp)
    ·rw [if_neg c13] at H
     exact absurd H (by simp)
   ·rw [if_neg c11] at H
    exact absurd H (by simp)
  ·rw [if_neg c10] at H
   exact absurd H (by simp)
 ·replace c6 := Bool.eq_false_iff.mpr c6
  subst c6
  have H1 : (some false) = some r := by rw [if_neg (show ¬ (false = true) by decide)] at H; exact H
  clear H
  have H := H1
  clear H1
  as_aux_lemma =>
   exact absurd ((Option.some.inj H).trans HQ_.out) (by decide)

theorem foghornlaw19_ReedLinear.walk (P : foghornlaw19_ReedLinear.Pure) (a0 : ByteArray) (a1 : ByteArray) (a2 : Int) (a3 : Int) (w : World) (w0 : a0.size ≤ 140737488351232) (w1 : a1.size ≤ 140737488351232) (w2 : (Lit.int .i64 a2).wf = true) (w3 : (Lit.int .u8 a3).wf = true) :
  Calls Try.prog 3 #[.string a0, .string a1, .int .i64 a2, .int .u8 a3] w fun e w' => e = .returned (.bool true) ∧ Below w.heap.size w w' := by
 obtain ⟨k, h⟩ := P a0 a1 a2 a3 w0 w1 w2 w3
 refine (foghornlaw19_ReedLinear.calls k a0 a1 a2 a3 true w h rfl).mono ?_
 rintro e w' ⟨rfl, hd⟩
 exact ⟨rfl, hd⟩

end Go.Proofs.Ytncoakokdajibaa.Q
