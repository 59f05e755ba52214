-- Printed by myprint.py (ours) over the kit's printer, out of the translation.
import Derived.Test.YtncoakokdajibaaReedOneK0
import Derived.Test.YtncoakokdajibaaReedOneF0
import Derived.Test.YtncoakokdajibaaReedOneQ1
import Derived.Test.YtncoakokdajibaaReedOneQ2
namespace Go.Proofs.Ytncoakokdajibaa.Q
open Go.RowKit Go.Proofs.YtncoakokdajibaaW.PrintWords Go.Proofs.YtncoakokdajibaaW.PrintLast Go.Proofs.YtncoakokdajibaaW.PrintMore
attribute [local go_sem] ArrW.ptrOf_slice max2_int min2_int max_two min_two max_three min_three max_four min_four   -- for this text's walks alone
set_option linter.unusedVariables false
set_option linter.unusedSimpArgs false

/-! ### foghornlaw19_ReedOne: function 4 -/
set_option maxHeartbeats 8000000 in
set_option maxRecDepth 100000 in
theorem foghornlaw19_ReedOne.calls (k : Nat) (a0 : ByteArray) (a1 : Int) (r : Bool) (w : World) (h : foghornlaw19_ReedOne.f k a0 a1 = some r) (hq_ : r = true) :
  Calls Try.prog 4 #[.string a0, .int .i64 a1] w fun e w' => e = .returned (.bool r) ∧ Below w.heap.size w w' := by
 have HQ_ := Aside0.mk hq_
 clear hq_
 have HB := Aside0.mk (Below.refl w.heap.size w)
 have H : ((foghornlaw19_works.f k).bind fun t203 => (if t203 = true then ((foghornlaw19_fit.f a0 a1).bind fun bt204 => (if bt204.1.size + 1 ≤ 9223372036854775807 then (if 0 ≤ (mx 0 (wrap64 (bt204.2 - 1))) then (if (mx 0 (wrap64 (bt204.2 - 1)) : Int).toNat ≤ 281474976710656 then ((some (List.replicate (mx 0 (wrap64 (bt204.2 - 1)) : Int).toNat 0 : List Int)).bind fun y206 => (if (bt204.1 ++ (⟨#[7]⟩ : ByteArray)).size + (strOfNums y206).size ≤ 9223372036854775807 then (if 0 ≤ (mn (((bt204.1 ++ (⟨#[7]⟩ : ByteArray)) ++ (strOfNums y206)).size : Int) 255) then (if (mn (((bt204.1 ++ (⟨#[7]⟩ : ByteArray)) ++ (strOfNums y206)).size : Int) 255) ≤ (((bt204.1 ++ (⟨#[7]⟩ : ByteArray)) ++ (strOfNums y206)).size : Int) then (if 0 ≤ (wrap64 (((((bt204.1 ++ (⟨#[7]⟩ : ByteArray)) ++ (strOfNums y206)).extract 0 ((mn (((bt204.1 ++ (⟨#[7]⟩ : ByteArray)) ++ (strOfNums y206)).size : Int) 255) : Int).toNat).size : Int) - bt204.2)) then (if (wrap64 (((((bt204.1 ++ (⟨#[7]⟩ : ByteArray)) ++ (strOfNums y206)).extract 0 ((mn (((bt204.1 ++ (⟨#[7]⟩ : ByteArray)) ++ (strOfNums y206)).size : Int) 255) : Int).toNat).size : Int) - bt204.2)) ≤ ((((bt204.1 ++ (⟨#[7]⟩ : ByteArray)) ++ (strOfNums y206)).extract 0 ((mn (((bt204.1 ++ (⟨#[7]⟩ : ByteArray)) ++ (strOfNums y206)).size : Int) 255) : Int).toNat).size : Int) then ((reed_Encode.f k ((((bt204.1 ++ (⟨#[7]⟩ : ByteArray)) ++ (strOfNums y206)).extract 0 ((mn (((bt204.1 ++ (⟨#[7]⟩ : ByteArray)) ++ (strOfNums y206)).size : Int) 255) : Int).toNat).extract 0 ((wrap64 (((((bt204.1 ++ (⟨#[7]⟩ : ByteArray)) ++ (strOfNums y206)).extract 0 ((mn (((bt204.1 ++ (⟨#[7]⟩ : ByteArray)) ++ (strOfNums y206)).size : Int) 255) : Int).toNat).size : Int) - bt204.2)) : Int).toNat) bt204.2).bind fun bt209 => ((reed_Whole.f k (((bt204.1 ++ (⟨#[7]⟩ : ByteArray)) ++ (strOfNums y206)).extract 0 ((mn (((bt204.1 ++ (⟨#[7]⟩ : ByteArray)) ++ (strOfNums y206)).size : Int) 255) : Int).toNat) bt204.2).bind fun bt211 => ((reed_Syndromes.f k (((bt204.1 ++ (⟨#[7]⟩ : ByteArray)) ++ (strOfNums y206)).extract 0 ((mn (((bt204.1 ++ (⟨#[7]⟩ : ByteArray)) ++ (strOfNums y206)).size : Int) 255) : Int).toNat) bt204.2).bind fun bt213 => (if bt209.2 = 0 then (if bt211.2 = 0 then (if bt213.2 = 0 then (if (bt209.1.size : Int) = ((((bt204.1 ++ (⟨#[7]⟩ : ByteArray)) ++ (strOfNums y206)).extract 0 ((mn (((bt204.1 ++ (⟨#[7]⟩ : ByteArray)) ++ (strOfNums y206)).size : Int) 255) : Int).toNat).size : Int) then (if 0 ≤ (((((bt204.1 ++ (⟨#[7]⟩ : ByteArray)) ++ (strOfNums y206)).extract 0 ((mn (((bt204.1 ++ (⟨#[7]⟩ : ByteArray)) ++ (strOfNums y206)).size : Int) 255) : Int).toNat).extract 0 ((wrap64 (((((bt204.1 ++ (⟨#[7]⟩ : ByteArray)) ++ (strOfNums y206)).extract 0 ((mn (((bt204.1 ++ (⟨#[7]⟩ : ByteArray)) ++ (strOfNums y206)).size : Int) 255) : Int).toNat).size : Int) - bt204.2)) : Int).toNat).size : Int) then (if (((((bt204.1 ++ (⟨#[7]⟩ : ByteArray)) ++ (strOfNums y206)).extract 0 ((mn (((bt204.1 ++ (⟨#[7]⟩ : ByteArray)) ++ (strOfNums y206)).size : Int) 255) : Int).toNat).extract 0 ((wrap64 (((((bt204.1 ++ (⟨#[7]⟩ : ByteArray)) ++ (strOfNums y206)).extract 0 ((mn (((bt204.1 ++ (⟨#[7]⟩ : ByteArray)) ++ (strOfNums y206)).size : Int) 255) : Int).toNat).size : Int) - bt204.2)) : Int).toNat).size : Int) ≤ (bt209.1.size : Int) then (if (bt209.1.extract 0 ((((((bt204.1 ++ (⟨#[7]⟩ : ByteArray)) ++ (strOfNums y206)).extract 0 ((mn (((bt204.1 ++ (⟨#[7]⟩ : ByteArray)) ++ (strOfNums y206)).size : Int) 255) : Int).toNat).extract 0 ((wrap64 (((((bt204.1 ++ (⟨#[7]⟩ : ByteArray)) ++ (strOfNums y206)).extract 0 ((mn (((bt204.1 ++ (⟨#[7]⟩ : ByteArray)) ++ (strOfNums y206)).size : Int) 255) : Int).toNat).size : Int) - bt204.2)) : Int).toNat).size : Int) : Int).toNat).toList = ((((bt204.1 ++ (⟨#[7]⟩ : ByteArray)) ++ (strOfNums y206)).extract 0 ((mn (((bt204.1 ++ (⟨#[7]⟩ : ByteArray)) ++ (strOfNums y206)).size : Int) 255) : Int).toNat).extract 0 ((wrap64 (((((bt204.1 ++ (⟨#[7]⟩ : ByteArray)) ++ (strOfNums y206)).extract 0 ((mn (((bt204.1 ++ (⟨#[7]⟩ : ByteArray)) ++ (strOfNums y206)).size : Int) 255) : Int).toNat).size : Int) - bt204.2)) : Int).toNat).toList then (foghornlaw19_ReedOne.j0 k bt211.1 bt213.1 (bt211.1 != (bt209.1.toList == (((bt204.1 ++ (⟨#[7]⟩ : ByteArray)) ++ (strOfNums y206)).extract 0 ((mn (((bt204.1 ++ (⟨#[7]⟩ : ByteArray)) ++ (strOfNums y206)).size : Int) 255) : Int).toNat).toList))) else (foghornlaw19_ReedOne.j0 k bt211.1 bt213.1 true)) else (none)) else (none)) else (foghornlaw19_ReedOne.j0 k bt211.1 bt213.1 true)) else (foghornlaw19_ReedOne.j0 k bt211.1 bt213.1 true)) else (foghornlaw19_ReedOne.j0 k bt211.1 bt213.1 true)) else (foghornlaw19_ReedOne.j0 k bt211.1 bt213.1 true))))) else (none)) else (none)) else (none)) else (none)) else (none))) else (none)) else (none)) else (none))) else (some false))) = some r := h
 clear h
 replace H := Option.bind_eq_some_iff.mp H
 obtain ⟨t203, A30, H⟩ := H
 replace H : (if t203 = true then ((foghornlaw19_fit.f a0 a1).bind fun bt204 => (if bt204.1.size + 1 ≤ 9223372036854775807 then (if 0 ≤ (mx 0 (wrap64 (bt204.2 - 1))) then (if (mx 0 (wrap64 (bt204.2 - 1)) : Int).toNat ≤ 281474976710656 then ((some (List.replicate (mx 0 (wrap64 (bt204.2 - 1)) : Int).toNat 0 : List Int)).bind fun y206 => (if (bt204.1 ++ (⟨#[7]⟩ : ByteArray)).size + (strOfNums y206).size ≤ 9223372036854775807 then (if 0 ≤ (mn (((bt204.1 ++ (⟨#[7]⟩ : ByteArray)) ++ (strOfNums y206)).size : Int) 255) then (if (mn (((bt204.1 ++ (⟨#[7]⟩ : ByteArray)) ++ (strOfNums y206)).size : Int) 255) ≤ (((bt204.1 ++ (⟨#[7]⟩ : ByteArray)) ++ (strOfNums y206)).size : Int) then (if 0 ≤ (wrap64 (((((bt204.1 ++ (⟨#[7]⟩ : ByteArray)) ++ (strOfNums y206)).extract 0 ((mn (((bt204.1 ++ (⟨#[7]⟩ : ByteArray)) ++ (strOfNums y206)).size : Int) 255) : Int).toNat).size : Int) - bt204.2)) then (if (wrap64 (((((bt204.1 ++ (⟨#[7]⟩ : ByteArray)) ++ (strOfNums y206)).extract 0 ((mn (((bt204.1 ++ (⟨#[7]⟩ : ByteArray)) ++ (strOfNums y206)).size : Int) 255) : Int).toNat).size : Int) - bt204.2)) ≤ ((((bt204.1 ++ (⟨#[7]⟩ : ByteArray)) ++ (strOfNums y206)).extract 0 ((mn (((bt204.1 ++ (⟨#[7]⟩ : ByteArray)) ++ (strOfNums y206)).size : Int) 255) : Int).toNat).size : Int) then ((reed_Encode.f k ((((bt204.1 ++ (⟨#[7]⟩ : ByteArray)) ++ (strOfNums y206)).extract 0 ((mn (((bt204.1 ++ (⟨#[7]⟩ : ByteArray)) ++ (strOfNums y206)).size : Int) 255) : Int).toNat).extract 0 ((wrap64 (((((bt204.1 ++ (⟨#[7]⟩ : ByteArray)) ++ (strOfNums y206)).extract 0 ((mn (((bt204.1 ++ (⟨#[7]⟩ : ByteArray)) ++ (strOfNums y206)).size : Int) 255) : Int).toNat).size : Int) - bt204.2)) : Int).toNat) bt204.2).bind fun bt209 => ((reed_Whole.f k (((bt204.1 ++ (⟨#[7]⟩ : ByteArray)) ++ (strOfNums y206)).extract 0 ((mn (((bt204.1 ++ (⟨#[7]⟩ : ByteArray)) ++ (strOfNums y206)).size : Int) 255) : Int).toNat) bt204.2).bind fun bt211 => ((reed_Syndromes.f k (((bt204.1 ++ (⟨#[7]⟩ : ByteArray)) ++ (strOfNums y206)).extract 0 ((mn (((bt204.1 ++ (⟨#[7]⟩ : ByteArray)) ++ (strOfNums y206)).size : Int) 255) : Int).toNat) bt204.2).bind fun bt213 => (if bt209.2 = 0 then (if bt211.2 = 0 then (if bt213.2 = 0 then (if (bt209.1.size : Int) = ((((bt204.1 ++ (⟨#[7]⟩ : ByteArray)) ++ (strOfNums y206)).extract 0 ((mn (((bt204.1 ++ (⟨#[7]⟩ : ByteArray)) ++ (strOfNums y206)).size : Int) 255) : Int).toNat).size : Int) then (if 0 ≤ (((((bt204.1 ++ (⟨#[7]⟩ : ByteArray)) ++ (strOfNums y206)).extract 0 ((mn (((bt204.1 ++ (⟨#[7]⟩ : ByteArray)) ++ (strOfNums y206)).size : Int) 255) : Int).toNat).extract 0 ((wrap64 (((((bt204.1 ++ (⟨#[7]⟩ : ByteArray)) ++ (strOfNums y206)).extract 0 ((mn (((bt204.1 ++ (⟨#[7]⟩ : ByteArray)) ++ (strOfNums y206)).size : Int) 255) : Int).toNat).size : Int) - bt204.2)) : Int).toNat).size : Int) then (if (((((bt204.1 ++ (⟨#[7]⟩ : ByteArray)) ++ (strOfNums y206)).extract 0 ((mn (((bt204.1 ++ (⟨#[7]⟩ : ByteArray)) ++ (strOfNums y206)).size : Int) 255) : Int).toNat).extract 0 ((wrap64 (((((bt204.1 ++ (⟨#[7]⟩ : ByteArray)) ++ (strOfNums y206)).extract 0 ((mn (((bt204.1 ++ (⟨#[7]⟩ : ByteArray)) ++ (strOfNums y206)).size : Int) 255) : Int).toNat).size : Int) - bt204.2)) : Int).toNat).size : Int) ≤ (bt209.1.size : Int) then (if (bt209.1.extract 0 ((((((bt204.1 ++ (⟨#[7]⟩ : ByteArray)) ++ (strOfNums y206)).extract 0 ((mn (((bt204.1 ++ (⟨#[7]⟩ : ByteArray)) ++ (strOfNums y206)).size : Int) 255) : Int).toNat).extract 0 ((wrap64 (((((bt204.1 ++ (⟨#[7]⟩ : ByteArray)) ++ (strOfNums y206)).extract 0 ((mn (((bt204.1 ++ (⟨#[7]⟩ : ByteArray)) ++ (strOfNums y206)).size : Int) 255) : Int).toNat).size : Int) - bt204.2)) : Int).toNat).size : Int) : Int).toNat).toList = ((((bt204.1 ++ (⟨#[7]⟩ : ByteArray)) ++ (strOfNums y206)).extract 0 ((mn (((bt204.1 ++ (⟨#[7]⟩ : ByteArray)) ++ (strOfNums y206)).size : Int) 255) : Int).toNat).extract 0 ((wrap64 (((((bt204.1 ++ (⟨#[7]⟩ : ByteArray)) ++ (strOfNums y206)).extract 0 ((mn (((bt204.1 ++ (⟨#[7]⟩ : ByteArray)) ++ (strOfNums y206)).size : Int) 255) : Int).toNat).size : Int) - bt204.2)) : Int).toNat).toList then (foghornlaw19_ReedOne.j0 k bt211.1 bt213.1 (bt211.1 != (bt209.1.toList == (((bt204.1 ++ (⟨#[7]⟩ : ByteArray)) ++ (strOfNums y206)).extract 0 ((mn (((bt204.1 ++ (⟨#[7]⟩ : ByteArray)) ++ (strOfNums y206)).size : Int) 255) : Int).toNat).toList))) else (foghornlaw19_ReedOne.j0 k bt211.1 bt213.1 true)) else (none)) else (none)) else (foghornlaw19_ReedOne.j0 k bt211.1 bt213.1 true)) else (foghornlaw19_ReedOne.j0 k bt211.1 bt213.1 true)) else (foghornlaw19_ReedOne.j0 k bt211.1 bt213.1 true)) else (foghornlaw19_ReedOne.j0 k bt211.1 bt213.1 true))))) else (none)) else (none)) else (none)) else (none)) else (none))) else (none)) else (none)) else (none))) else (some false)) = some r := H
 have A3 := Aside0.mk A30
 clear A30
 by_cases c4 : t203 = true
 ·subst c4
  have H1 : ((foghornlaw19_fit.f a0 a1).bind fun bt204 => (if bt204.1.size + 1 ≤ 9223372036854775807 then (if 0 ≤ (mx 0 (wrap64 (bt204.2 - 1))) then (if (mx 0 (wrap64 (bt204.2 - 1)) : Int).toNat ≤ 281474976710656 then ((some (List.replicate (mx 0 (wrap64 (bt204.2 - 1)) : Int).toNat 0 : List Int)).bind fun y206 => (if (bt204.1 ++ (⟨#[7]⟩ : ByteArray)).size + (strOfNums y206).size ≤ 9223372036854775807 then (if 0 ≤ (mn (((bt204.1 ++ (⟨#[7]⟩ : ByteArray)) ++ (strOfNums y206)).size : Int) 255) then (if (mn (((bt204.1 ++ (⟨#[7]⟩ : ByteArray)) ++ (strOfNums y206)).size : Int) 255) ≤ (((bt204.1 ++ (⟨#[7]⟩ : ByteArray)) ++ (strOfNums y206)).size : Int) then (if 0 ≤ (wrap64 (((((bt204.1 ++ (⟨#[7]⟩ : ByteArray)) ++ (strOfNums y206)).extract 0 ((mn (((bt204.1 ++ (⟨#[7]⟩ : ByteArray)) ++ (strOfNums y206)).size : Int) 255) : Int).toNat).size : Int) - bt204.2)) then (if (wrap64 (((((bt204.1 ++ (⟨#[7]⟩ : ByteArray)) ++ (strOfNums y206)).extract 0 ((mn (((bt204.1 ++ (⟨#[7]⟩ : ByteArray)) ++ (strOfNums y206)).size : Int) 255) : Int).toNat).size : Int) - bt204.2)) ≤ ((((bt204.1 ++ (⟨#[7]⟩ : ByteArray)) ++ (strOfNums y206)).extract 0 ((mn (((bt204.1 ++ (⟨#[7]⟩ : ByteArray)) ++ (strOfNums y206)).size : Int) 255) : Int).toNat).size : Int) then ((reed_Encode.f k ((((bt204.1 ++ (⟨#[7]⟩ : ByteArray)) ++ (strOfNums y206)).extract 0 ((mn (((bt204.1 ++ (⟨#[7]⟩ : ByteArray)) ++ (strOfNums y206)).size : Int) 255) : Int).toNat).extract 0 ((wrap64 (((((bt204.1 ++ (⟨#[7]⟩ : ByteArray)) ++ (strOfNums y206)).extract 0 ((mn (((bt204.1 ++ (⟨#[7]⟩ : ByteArray)) ++ (strOfNums y206)).size : Int) 255) : Int).toNat).size : Int) - bt204.2)) : Int).toNat) bt204.2).bind fun bt209 => ((reed_Whole.f k (((bt204.1 ++ (⟨#[7]⟩ : ByteArray)) ++ (strOfNums y206)).extract 0 ((mn (((bt204.1 ++ (⟨#[7]⟩ : ByteArray)) ++ (strOfNums y206)).size : Int) 255) : Int).toNat) bt204.2).bind fun bt211 => ((reed_Syndromes.f k (((bt204.1 ++ (⟨#[7]⟩ : ByteArray)) ++ (strOfNums y206)).extract 0 ((mn (((bt204.1 ++ (⟨#[7]⟩ : ByteArray)) ++ (strOfNums y206)).size : Int) 255) : Int).toNat) bt204.2).bind fun bt213 => (if bt209.2 = 0 then (if bt211.2 = 0 then (if bt213.2 = 0 then (if (bt209.1.size : Int) = ((((bt204.1 ++ (⟨#[7]⟩ : ByteArray)) ++ (strOfNums y206)).extract 0 ((mn (((bt204.1 ++ (⟨#[7]⟩ : ByteArray)) ++ (strOfNums y206)).size : Int) 255) : Int).toNat).size : Int) then (if 0 ≤ (((((bt204.1 ++ (⟨#[7]⟩ : ByteArray)) ++ (strOfNums y206)).extract 0 ((mn (((bt204.1 ++ (⟨#[7]⟩ : ByteArray)) ++ (strOfNums y206)).size : Int) 255) : Int).toNat).extract 0 ((wrap64 (((((bt204.1 ++ (⟨#[7]⟩ : ByteArray)) ++ (strOfNums y206)).extract 0 ((mn (((bt204.1 ++ (⟨#[7]⟩ : ByteArray)) ++ (strOfNums y206)).size : Int) 255) : Int).toNat).size : Int) - bt204.2)) : Int).toNat).size : Int) then (if (((((bt204.1 ++ (⟨#[7]⟩ : ByteArray)) ++ (strOfNums y206)).extract 0 ((mn (((bt204.1 ++ (⟨#[7]⟩ : ByteArray)) ++ (strOfNums y206)).size : Int) 255) : Int).toNat).extract 0 ((wrap64 (((((bt204.1 ++ (⟨#[7]⟩ : ByteArray)) ++ (strOfNums y206)).extract 0 ((mn (((bt204.1 ++ (⟨#[7]⟩ : ByteArray)) ++ (strOfNums y206)).size : Int) 255) : Int).toNat).size : Int) - bt204.2)) : Int).toNat).size : Int) ≤ (bt209.1.size : Int) then (if (bt209.1.extract 0 ((((((bt204.1 ++ (⟨#[7]⟩ : ByteArray)) ++ (strOfNums y206)).extract 0 ((mn (((bt204.1 ++ (⟨#[7]⟩ : ByteArray)) ++ (strOfNums y206)).size : Int) 255) : Int).toNat).extract 0 ((wrap64 (((((bt204.1 ++ (⟨#[7]⟩ : ByteArray)) ++ (strOfNums y206)).extract 0 ((mn (((bt204.1 ++ (⟨#[7]⟩ : ByteArray)) ++ (strOfNums y206)).size : Int) 255) : Int).toNat).size : Int) - bt204.2)) : Int).toNat).size : Int) : Int).toNat).toList = ((((bt204.1 ++ (⟨#[7]⟩ : ByteArray)) ++ (strOfNums y206)).extract 0 ((mn (((bt204.1 ++ (⟨#[7]⟩ : ByteArray)) ++ (strOfNums y206)).size : Int) 255) : Int).toNat).extract 0 ((wrap64 (((((bt204.1 ++ (⟨#[7]⟩ : ByteArray)) ++ (strOfNums y206)).extract 0 ((mn (((bt204.1 ++ (⟨#[7]⟩ : ByteArray)) ++ (strOfNums y206)).size : Int) 255) : Int).toNat).size : Int) - bt204.2)) : Int).toNat).toList then (foghornlaw19_ReedOne.j0 k bt211.1 bt213.1 (bt211.1 != (bt209.1.toList == (((bt204.1 ++ (⟨#[7]⟩ : ByteArray)) ++ (strOfNums y206)).extract 0 ((mn (((bt204.1 ++ (⟨#[7]⟩ : ByteArray)) ++ (strOfNums y206)).size : Int) 255) : Int).toNat).toList))) else (foghornlaw19_ReedOne.j0 k bt211.1 bt213.1 true)) else (none)) else (none)) else (foghornlaw19_ReedOne.j0 k bt211.1 bt213.1 true)) else (foghornlaw19_ReedOne.j0 k bt211.1 bt213.1 true)) else (foghornlaw19_ReedOne.j0 k bt211.1 bt213.1 true)) else (foghornlaw19_ReedOne.j0 k bt211.1 bt213.1 true))))) else (none)) else (none)) else (none)) else (none)) else (none))) else (none)) else (none)) else (none))) = some r := by rw [if_pos rfl] at H; exact H
  clear H
  have H := H1
  clear H1
  replace H := Option.bind_eq_some_iff.mp H
  obtain ⟨⟨t204, t205⟩, A50, H⟩ := H
  replace H : (if t204.size + 1 ≤ 9223372036854775807 then (if 0 ≤ (mx 0 (wrap64 (t205 - 1))) then (if (mx 0 (wrap64 (t205 - 1)) : Int).toNat ≤ 281474976710656 then ((some (List.replicate (mx 0 (wrap64 (t205 - 1)) : Int).toNat 0 : List Int)).bind fun y206 => (if (t204 ++ (⟨#[7]⟩ : ByteArray)).size + (strOfNums y206).size ≤ 9223372036854775807 then (if 0 ≤ (mn (((t204 ++ (⟨#[7]⟩ : ByteArray)) ++ (strOfNums y206)).size : Int) 255) then (if (mn (((t204 ++ (⟨#[7]⟩ : ByteArray)) ++ (strOfNums y206)).size : Int) 255) ≤ (((t204 ++ (⟨#[7]⟩ : ByteArray)) ++ (strOfNums y206)).size : Int) then (if 0 ≤ (wrap64 (((((t204 ++ (⟨#[7]⟩ : ByteArray)) ++ (strOfNums y206)).extract 0 ((mn (((t204 ++ (⟨#[7]⟩ : ByteArray)) ++ (strOfNums y206)).size : Int) 255) : Int).toNat).size : Int) - t205)) then (if (wrap64 (((((t204 ++ (⟨#[7]⟩ : ByteArray)) ++ (strOfNums y206)).extract 0 ((mn (((t204 ++ (⟨#[7]⟩ : ByteArray)) ++ (strOfNums y206)).size : Int) 255) : Int).toNat).size : Int) - t205)) ≤ ((((t204 ++ (⟨#[7]⟩ : ByteArray)) ++ (strOfNums y206)).extract 0 ((mn (((t204 ++ (⟨#[7]⟩ : ByteArray)) ++ (strOfNums y206)).size : Int) 255) : Int).toNat).size : Int) then ((reed_Encode.f k ((((t204 ++ (⟨#[7]⟩ : ByteArray)) ++ (strOfNums y206)).extract 0 ((mn (((t204 ++ (⟨#[7]⟩ : ByteArray)) ++ (strOfNums y206)).size : Int) 255) : Int).toNat).extract 0 ((wrap64 (((((t204 ++ (⟨#[7]⟩ : ByteArray)) ++ (strOfNums y206)).extract 0 ((mn (((t204 ++ (⟨#[7]⟩ : ByteArray)) ++ (strOfNums y206)).size : Int) 255) : Int).toNat).size : Int) - t205)) : Int).toNat) t205).bind fun bt209 => ((reed_Whole.f k (((t204 ++ (⟨#[7]⟩ : ByteArray)) ++ (strOfNums y206)).extract 0 ((mn (((t204 ++ (⟨#[7]⟩ : ByteArray)) ++ (strOfNums y206)).size : Int) 255) : Int).toNat) t205).bind fun bt211 => ((reed_Syndromes.f k (((t204 ++ (⟨#[7]⟩ : ByteArray)) ++ (strOfNums y206)).extract 0 ((mn (((t204 ++ (⟨#[7]⟩ : ByteArray)) ++ (strOfNums y206)).size : Int) 255) : Int).toNat) t205).bind fun bt213 => (if bt209.2 = 0 then (if bt211.2 = 0 then (if bt213.2 = 0 then (if (bt209.1.size : Int) = ((((t204 ++ (⟨#[7]⟩ : ByteArray)) ++ (strOfNums y206)).extract 0 ((mn (((t204 ++ (⟨#[7]⟩ : ByteArray)) ++ (strOfNums y206)).size : Int) 255) : Int).toNat).size : Int) then (if 0 ≤ (((((t204 ++ (⟨#[7]⟩ : ByteArray)) ++ (strOfNums y206)).extract 0 ((mn (((t204 ++ (⟨#[7]⟩ : ByteArray)) ++ (strOfNums y206)).size : Int) 255) : Int).toNat).extract 0 ((wrap64 (((((t204 ++ (⟨#[7]⟩ : ByteArray)) ++ (strOfNums y206)).extract 0 ((mn (((t204 ++ (⟨#[7]⟩ : ByteArray)) ++ (strOfNums y206)).size : Int) 255) : Int).toNat).size : Int) - t205)) : Int).toNat).size : Int) then (if (((((t204 ++ (⟨#[7]⟩ : ByteArray)) ++ (strOfNums y206)).extract 0 ((mn (((t204 ++ (⟨#[7]⟩ : ByteArray)) ++ (strOfNums y206)).size : Int) 255) : Int).toNat).extract 0 ((wrap64 (((((t204 ++ (⟨#[7]⟩ : ByteArray)) ++ (strOfNums y206)).extract 0 ((mn (((t204 ++ (⟨#[7]⟩ : ByteArray)) ++ (strOfNums y206)).size : Int) 255) : Int).toNat).size : Int) - t205)) : Int).toNat).size : Int) ≤ (bt209.1.size : Int) then (if (bt209.1.extract 0 ((((((t204 ++ (⟨#[7]⟩ : ByteArray)) ++ (strOfNums y206)).extract 0 ((mn (((t204 ++ (⟨#[7]⟩ : ByteArray)) ++ (strOfNums y206)).size : Int) 255) : Int).toNat).extract 0 ((wrap64 (((((t204 ++ (⟨#[7]⟩ : ByteArray)) ++ (strOfNums y206)).extract 0 ((mn (((t204 ++ (⟨#[7]⟩ : ByteArray)) ++ (strOfNums y206)).size : Int) 255) : Int).toNat).size : Int) - t205)) : Int).toNat).size : Int) : Int).toNat).toList = ((((t204 ++ (⟨#[7]⟩ : ByteArray)) ++ (strOfNums y206)).extract 0 ((mn (((t204 ++ (⟨#[7]⟩ : ByteArray)) ++ (strOfNums y206)).size : Int) 255) : Int).toNat).extract 0 ((wrap64 (((((t204 ++ (⟨#[7]⟩ : ByteArray)) ++ (strOfNums y206)).extract 0 ((mn (((t204 ++ (⟨#[7]⟩ : ByteArray)) ++ (strOfNums y206)).size : Int) 255) : Int).toNat).size : Int) - t205)) : Int).toNat).toList then (foghornlaw19_ReedOne.j0 k bt211.1 bt213.1 (bt211.1 != (bt209.1.toList == (((t204 ++ (⟨#[7]⟩ : ByteArray)) ++ (strOfNums y206)).extract 0 ((mn (((t204 ++ (⟨#[7]⟩ : ByteArray)) ++ (strOfNums y206)).size : Int) 255) : Int).toNat).toList))) else (foghornlaw19_ReedOne.j0 k bt211.1 bt213.1 true)) else (none)) else (none)) else (foghornlaw19_ReedOne.j0 k bt211.1 bt213.1 true)) else (foghornlaw19_ReedOne.j0 k bt211.1 bt213.1 true)) else (foghornlaw19_ReedOne.j0 k bt211.1 bt213.1 true)) else (foghornlaw19_ReedOne.j0 k bt211.1 bt213.1 true))))) else (none)) else (none)) else (none)) else (none)) else (none))) else (none)) else (none)) else (none)) = some r := H
  have A5 := Aside0.mk A50
  clear A50
  by_cases c6 : t204.size + 1 ≤ 9223372036854775807
  ·rw [if_pos c6] at H
   have c6b0 := eq_true c6
   have c6b1 : decide (t204.size + 1 ≤ 9223372036854775807) = true := decide_eq_true c6
   try have c6b2 : (9223372036854775807 < t204.size + 1) = False := eq_false (Nat.not_lt.2 c6)
   obtain ⟨ji7, hji7⟩ : ∃ j_ : Int, (mx 0 (wrap64 (t205 - 1))) = j_ := ⟨_, rfl⟩
   replace H : (if 0 ≤ (ji7) then (if (ji7 : Int).toNat ≤ 281474976710656 then ((some (List.replicate (ji7 : Int).toNat 0 : List Int)).bind fun y206 => (if (t204 ++ (⟨#[7]⟩ : ByteArray)).size + (strOfNums y206).size ≤ 9223372036854775807 then (if 0 ≤ (mn (((t204 ++ (⟨#[7]⟩ : ByteArray)) ++ (strOfNums y206)).size : Int) 255) then (if (mn (((t204 ++ (⟨#[7]⟩ : ByteArray)) ++ (strOfNums y206)).size : Int) 255) ≤ (((t204 ++ (⟨#[7]⟩ : ByteArray)) ++ (strOfNums y206)).size : Int) then (if 0 ≤ (wrap64 (((((t204 ++ (⟨#[7]⟩ : ByteArray)) ++ (strOfNums y206)).extract 0 ((mn (((t204 ++ (⟨#[7]⟩ : ByteArray)) ++ (strOfNums y206)).size : Int) 255) : Int).toNat).size : Int) - t205)) then (if (wrap64 (((((t204 ++ (⟨#[7]⟩ : ByteArray)) ++ (strOfNums y206)).extract 0 ((mn (((t204 ++ (⟨#[7]⟩ : ByteArray)) ++ (strOfNums y206)).size : Int) 255) : Int).toNat).size : Int) - t205)) ≤ ((((t204 ++ (⟨#[7]⟩ : ByteArray)) ++ (strOfNums y206)).extract 0 ((mn (((t204 ++ (⟨#[7]⟩ : ByteArray)) ++ (strOfNums y206)).size : Int) 255) : Int).toNat).size : Int) then ((reed_Encode.f k ((((t204 ++ (⟨#[7]⟩ : ByteArray)) ++ (strOfNums y206)).extract 0 ((mn (((t204 ++ (⟨#[7]⟩ : ByteArray)) ++ (strOfNums y206)).size : Int) 255) : Int).toNat).extract 0 ((wrap64 (((((t204 ++ (⟨#[7]⟩ : ByteArray)) ++ (strOfNums y206)).extract 0 ((mn (((t204 ++ (⟨#[7]⟩ : ByteArray)) ++ (strOfNums y206)).size : Int) 255) : Int).toNat).size : Int) - t205)) : Int).toNat) t205).bind fun bt209 => ((reed_Whole.f k (((t204 ++ (⟨#[7]⟩ : ByteArray)) ++ (strOfNums y206)).extract 0 ((mn (((t204 ++ (⟨#[7]⟩ : ByteArray)) ++ (strOfNums y206)).size : Int) 255) : Int).toNat) t205).bind fun bt211 => ((reed_Syndromes.f k (((t204 ++ (⟨#[7]⟩ : ByteArray)) ++ (strOfNums y206)).extract 0 ((mn (((t204 ++ (⟨#[7]⟩ : ByteArray)) ++ (strOfNums y206)).size : Int) 255) : Int).toNat) t205).bind fun bt213 => (if bt209.2 = 0 then (if bt211.2 = 0 then (if bt213.2 = 0 then (if (bt209.1.size : Int) = ((((t204 ++ (⟨#[7]⟩ : ByteArray)) ++ (strOfNums y206)).extract 0 ((mn (((t204 ++ (⟨#[7]⟩ : ByteArray)) ++ (strOfNums y206)).size : Int) 255) : Int).toNat).size : Int) then (if 0 ≤ (((((t204 ++ (⟨#[7]⟩ : ByteArray)) ++ (strOfNums y206)).extract 0 ((mn (((t204 ++ (⟨#[7]⟩ : ByteArray)) ++ (strOfNums y206)).size : Int) 255) : Int).toNat).extract 0 ((wrap64 (((((t204 ++ (⟨#[7]⟩ : ByteArray)) ++ (strOfNums y206)).extract 0 ((mn (((t204 ++ (⟨#[7]⟩ : ByteArray)) ++ (strOfNums y206)).size : Int) 255) : Int).toNat).size : Int) - t205)) : Int).toNat).size : Int) then (if (((((t204 ++ (⟨#[7]⟩ : ByteArray)) ++ (strOfNums y206)).extract 0 ((mn (((t204 ++ (⟨#[7]⟩ : ByteArray)) ++ (strOfNums y206)).size : Int) 255) : Int).toNat).extract 0 ((wrap64 (((((t204 ++ (⟨#[7]⟩ : ByteArray)) ++ (strOfNums y206)).extract 0 ((mn (((t204 ++ (⟨#[7]⟩ : ByteArray)) ++ (strOfNums y206)).size : Int) 255) : Int).toNat).size : Int) - t205)) : Int).toNat).size : Int) ≤ (bt209.1.size : Int) then (if (bt209.1.extract 0 ((((((t204 ++ (⟨#[7]⟩ : ByteArray)) ++ (strOfNums y206)).extract 0 ((mn (((t204 ++ (⟨#[7]⟩ : ByteArray)) ++ (strOfNums y206)).size : Int) 255) : Int).toNat).extract 0 ((wrap64 (((((t204 ++ (⟨#[7]⟩ : ByteArray)) ++ (strOfNums y206)).extract 0 ((mn (((t204 ++ (⟨#[7]⟩ : ByteArray)) ++ (strOfNums y206)).size : Int) 255) : Int).toNat).size : Int) - t205)) : Int).toNat).size : Int) : Int).toNat).toList = ((((t204 ++ (⟨#[7]⟩ : ByteArray)) ++ (strOfNums y206)).extract 0 ((mn (((t204 ++ (⟨#[7]⟩ : ByteArray)) ++ (strOfNums y206)).size : Int) 255) : Int).toNat).extract 0 ((wrap64 (((((t204 ++ (⟨#[7]⟩ : ByteArray)) ++ (strOfNums y206)).extract 0 ((mn (((t204 ++ (⟨#[7]⟩ : ByteArray)) ++ (strOfNums y206)).size : Int) 255) : Int).toNat).size : Int) - t205)) : Int).toNat).toList then (foghornlaw19_ReedOne.j0 k bt211.1 bt213.1 (bt211.1 != (bt209.1.toList == (((t204 ++ (⟨#[7]⟩ : ByteArray)) ++ (strOfNums y206)).extract 0 ((mn (((t204 ++ (⟨#[7]⟩ : ByteArray)) ++ (strOfNums y206)).size : Int) 255) : Int).toNat).toList))) else (foghornlaw19_ReedOne.j0 k bt211.1 bt213.1 true)) else (none)) else (none)) else (foghornlaw19_ReedOne.j0 k bt211.1 bt213.1 true)) else (foghornlaw19_ReedOne.j0 k bt211.1 bt213.1 true)) else (foghornlaw19_ReedOne.j0 k bt211.1 bt213.1 true)) else (foghornlaw19_ReedOne.j0 k bt211.1 bt213.1 true))))) else (none)) else (none)) else (none)) else (none)) else (none))) else (none)) else (none)) = some r := by first | (rw [hji7] at H; exact H) | (simp only [hji7] at H ⊢; exact H)
   (try rw [hji7] at A3)
   (try rw [hji7] at A5)
   (try (have hji7l : 0 ≤ ji7 := by (rw [← hji7]; unfold mx; (repeat' split) <;> omega)))
   (try (have hji7m : 0 ≤ ji7 := by omega))
   have hji7_ : (if 0 < (wrap64 (t205 - 1)) then (wrap64 (t205 - 1)) else 0) = ji7 := hji7
   by_cases c8 : 0 ≤ (ji7)
   ·rw [if_pos c8] at H
    have c8b0 := eq_true c8
    have c8b1 : decide (0 ≤ (ji7)) = true := decide_eq_true c8
    clear c8
    by_cases c9 : (ji7 : Int).toNat ≤ 281474976710656
    ·rw [if_pos c9] at H
     have c9b0 := eq_true c9
     have c9b1 : decide ((ji7 : Int).toNat ≤ 281474976710656) = true := decide_eq_true c9
     clear c9
     obtain ⟨y206, hy206⟩ : ∃ y_ : List Int, y_ = (List.replicate (ji7 : Int).toNat 0) := ⟨_, rfl⟩
     replace H : (if (t204 ++ (⟨#[7]⟩ : ByteArray)).size + (strOfNums y206).size ≤ 9223372036854775807 then (if 0 ≤ (mn (((t204 ++ (⟨#[7]⟩ : ByteArray)) ++ (strOfNums y206)).size : Int) 255) then (if (mn (((t204 ++ (⟨#[7]⟩ : ByteArray)) ++ (strOfNums y206)).size : Int) 255) ≤ (((t204 ++ (⟨#[7]⟩ : ByteArray)) ++ (strOfNums y206)).size : Int) then (if 0 ≤ (wrap64 (((((t204 ++ (⟨#[7]⟩ : ByteArray)) ++ (strOfNums y206)).extract 0 ((mn (((t204 ++ (⟨#[7]⟩ : ByteArray)) ++ (strOfNums y206)).size : Int) 255) : Int).toNat).size : Int) - t205)) then (if (wrap64 (((((t204 ++ (⟨#[7]⟩ : ByteArray)) ++ (strOfNums y206)).extract 0 ((mn (((t204 ++ (⟨#[7]⟩ : ByteArray)) ++ (strOfNums y206)).size : Int) 255) : Int).toNat).size : Int) - t205)) ≤ ((((t204 ++ (⟨#[7]⟩ : ByteArray)) ++ (strOfNums y206)).extract 0 ((mn (((t204 ++ (⟨#[7]⟩ : ByteArray)) ++ (strOfNums y206)).size : Int) 255) : Int).toNat).size : Int) then ((reed_Encode.f k ((((t204 ++ (⟨#[7]⟩ : ByteArray)) ++ (strOfNums y206)).extract 0 ((mn (((t204 ++ (⟨#[7]⟩ : ByteArray)) ++ (strOfNums y206)).size : Int) 255) : Int).toNat).extract 0 ((wrap64 (((((t204 ++ (⟨#[7]⟩ : ByteArray)) ++ (strOfNums y206)).extract 0 ((mn (((t204 ++ (⟨#[7]⟩ : ByteArray)) ++ (strOfNums y206)).size : Int) 255) : Int).toNat).size : Int) - t205)) : Int).toNat) t205).bind fun bt209 => ((reed_Whole.f k (((t204 ++ (⟨#[7]⟩ : ByteArray)) ++ (strOfNums y206)).extract 0 ((mn (((t204 ++ (⟨#[7]⟩ : ByteArray)) ++ (strOfNums y206)).size : Int) 255) : Int).toNat) t205).bind fun bt211 => ((reed_Syndromes.f k (((t204 ++ (⟨#[7]⟩ : ByteArray)) ++ (strOfNums y206)).extract 0 ((mn (((t204 ++ (⟨#[7]⟩ : ByteArray)) ++ (strOfNums y206)).size : Int) 255) : Int).toNat) t205).bind fun bt213 => (if bt209.2 = 0 then (if bt211.2 = 0 then (if bt213.2 = 0 then (if (bt209.1.size : Int) = ((((t204 ++ (⟨#[7]⟩ : ByteArray)) ++ (strOfNums y206)).extract 0 ((mn (((t204 ++ (⟨#[7]⟩ : ByteArray)) ++ (strOfNums y206)).size : Int) 255) : Int).toNat).size : Int) then (if 0 ≤ (((((t204 ++ (⟨#[7]⟩ : ByteArray)) ++ (strOfNums y206)).extract 0 ((mn (((t204 ++ (⟨#[7]⟩ : ByteArray)) ++ (strOfNums y206)).size : Int) 255) : Int).toNat).extract 0 ((wrap64 (((((t204 ++ (⟨#[7]⟩ : ByteArray)) ++ (strOfNums y206)).extract 0 ((mn (((t204 ++ (⟨#[7]⟩ : ByteArray)) ++ (strOfNums y206)).size : Int) 255) : Int).toNat).size : Int) - t205)) : Int).toNat).size : Int) then (if (((((t204 ++ (⟨#[7]⟩ : ByteArray)) ++ (strOfNums y206)).extract 0 ((mn (((t204 ++ (⟨#[7]⟩ : ByteArray)) ++ (strOfNums y206)).size : Int) 255) : Int).toNat).extract 0 ((wrap64 (((((t204 ++ (⟨#[7]⟩ : ByteArray)) ++ (strOfNums y206)).extract 0 ((mn (((t204 ++ (⟨#[7]⟩ : ByteArray)) ++ (strOfNums y206)).size : Int) 255) : Int).toNat).size : Int) - t205)) : Int).toNat).size : Int) ≤ (bt209.1.size : Int) then (if (bt209.1.extract 0 ((((((t204 ++ (⟨#[7]⟩ : ByteArray)) ++ (strOfNums y206)).extract 0 ((mn (((t204 ++ (⟨#[7]⟩ : ByteArray)) ++ (strOfNums y206)).size : Int) 255) : Int).toNat).extract 0 ((wrap64 (((((t204 ++ (⟨#[7]⟩ : ByteArray)) ++ (strOfNums y206)).extract 0 ((mn (((t204 ++ (⟨#[7]⟩ : ByteArray)) ++ (strOfNums y206)).size : Int) 255) : Int).toNat).size : Int) - t205)) : Int).toNat).size : Int) : Int).toNat).toList = ((((t204 ++ (⟨#[7]⟩ : ByteArray)) ++ (strOfNums y206)).extract 0 ((mn (((t204 ++ (⟨#[7]⟩ : ByteArray)) ++ (strOfNums y206)).size : Int) 255) : Int).toNat).extract 0 ((wrap64 (((((t204 ++ (⟨#[7]⟩ : ByteArray)) ++ (strOfNums y206)).extract 0 ((mn (((t204 ++ (⟨#[7]⟩ : ByteArray)) ++ (strOfNums y206)).size : Int) 255) : Int).toNat).size : Int) - t205)) : Int).toNat).toList then (foghornlaw19_ReedOne.j0 k bt211.1 bt213.1 (bt211.1 != (bt209.1.toList == (((t204 ++ (⟨#[7]⟩ : ByteArray)) ++ (strOfNums y206)).extract 0 ((mn (((t204 ++ (⟨#[7]⟩ : ByteArray)) ++ (strOfNums y206)).size : Int) 255) : Int).toNat).toList))) else (foghornlaw19_ReedOne.j0 k bt211.1 bt213.1 true)) else (none)) else (none)) else (foghornlaw19_ReedOne.j0 k bt211.1 bt213.1 true)) else (foghornlaw19_ReedOne.j0 k bt211.1 bt213.1 true)) else (foghornlaw19_ReedOne.j0 k bt211.1 bt213.1 true)) else (foghornlaw19_ReedOne.j0 k bt211.1 bt213.1 true))))) else (none)) else (none)) else (none)) else (none)) else (none)) = some r := by first | (rw [hy206]; with_reducible exact H) | (have H2_ := (Option.bind_some _ _).symm.trans H; rw [hy206]; with_reducible exact H2_) | (have H2_ := (Option.bind_some _ _).symm.trans H; with_reducible exact H2_) | with_reducible exact H | (rw [hy206]; exact H) | exact H
     have Ny206 := Aside0.mk hy206
     clear hy206
     by_cases c10 : (t204 ++ (⟨#[7]⟩ : ByteArray)).size + (strOfNums y206).size ≤ 9223372036854775807
     ·rw [if_pos c10] at H
      have c10b0 := eq_true c10
      have c10b1 : decide ((t204 ++ (⟨#[7]⟩ : ByteArray)).size + (strOfNums y206).size ≤ 9223372036854775807) = true := decide_eq_true c10
      try have c10b2 : (9223372036854775807 < (t204 ++ (⟨#[7]⟩ : ByteArray)).size + (strOfNums y206).size) = False := eq_false (Nat.not_lt.2 c10)
      obtain ⟨ji11, hji11⟩ : ∃ j_ : Int, (mn (((t204 ++ (⟨#[7]⟩ : ByteArray)) ++ (strOfNums y206)).size : Int) 255) = j_ := ⟨_, rfl⟩
      replace H : (if 0 ≤ (ji11) then (if (ji11) ≤ (((t204 ++ (⟨#[7]⟩ : ByteArray)) ++ (strOfNums y206)).size : Int) then (if 0 ≤ (wrap64 (((((t204 ++ (⟨#[7]⟩ : ByteArray)) ++ (strOfNums y206)).extract 0 ((ji11) : Int).toNat).size : Int) - t205)) then (if (wrap64 (((((t204 ++ (⟨#[7]⟩ : ByteArray)) ++ (strOfNums y206)).extract 0 ((ji11) : Int).toNat).size : Int) - t205)) ≤ ((((t204 ++ (⟨#[7]⟩ : ByteArray)) ++ (strOfNums y206)).extract 0 ((ji11) : Int).toNat).size : Int) then ((reed_Encode.f k ((((t204 ++ (⟨#[7]⟩ : ByteArray)) ++ (strOfNums y206)).extract 0 ((ji11) : Int).toNat).extract 0 ((wrap64 (((((t204 ++ (⟨#[7]⟩ : ByteArray)) ++ (strOfNums y206)).extract 0 ((ji11) : Int).toNat).size : Int) - t205)) : Int).toNat) t205).bind fun bt209 => ((reed_Whole.f k (((t204 ++ (⟨#[7]⟩ : ByteArray)) ++ (strOfNums y206)).extract 0 ((ji11) : Int).toNat) t205).bind fun bt211 => ((reed_Syndromes.f k (((t204 ++ (⟨#[7]⟩ : ByteArray)) ++ (strOfNums y206)).extract 0 ((ji11) : Int).toNat) t205).bind fun bt213 => (if bt209.2 = 0 then (if bt211.2 = 0 then (if bt213.2 = 0 then (if (bt209.1.size : Int) = ((((t204 ++ (⟨#[7]⟩ : ByteArray)) ++ (strOfNums y206)).extract 0 ((ji11) : Int).toNat).size : Int) then (if 0 ≤ (((((t204 ++ (⟨#[7]⟩ : ByteArray)) ++ (strOfNums y206)).extract 0 ((ji11) : Int).toNat).extract 0 ((wrap64 (((((t204 ++ (⟨#[7]⟩ : ByteArray)) ++ (strOfNums y206)).extract 0 ((ji11) : Int).toNat).size : Int) - t205)) : Int).toNat).size : Int) then (if (((((t204 ++ (⟨#[7]⟩ : ByteArray)) ++ (strOfNums y206)).extract 0 ((ji11) : Int).toNat).extract 0 ((wrap64 (((((t204 ++ (⟨#[7]⟩ : ByteArray)) ++ (strOfNums y206)).extract 0 ((ji11) : Int).toNat).size : Int) - t205)) : Int).toNat).size : Int) ≤ (bt209.1.size : Int) then (if (bt209.1.extract 0 ((((((t204 ++ (⟨#[7]⟩ : ByteArray)) ++ (strOfNums y206)).extract 0 ((ji11) : Int).toNat).extract 0 ((wrap64 (((((t204 ++ (⟨#[7]⟩ : ByteArray)) ++ (strOfNums y206)).extract 0 ((ji11) : Int).toNat).size : Int) - t205)) : Int).toNat).size : Int) : Int).toNat).toList = ((((t204 ++ (⟨#[7]⟩ : ByteArray)) ++ (strOfNums y206)).extract 0 ((ji11) : Int).toNat).extract 0 ((wrap64 (((((t204 ++ (⟨#[7]⟩ : ByteArray)) ++ (strOfNums y206)).extract 0 ((ji11) : Int).toNat).size : Int) - t205)) : Int).toNat).toList then (foghornlaw19_ReedOne.j0 k bt211.1 bt213.1 (bt211.1 != (bt209.1.toList == (((t204 ++ (⟨#[7]⟩ : ByteArray)) ++ (strOfNums y206)).extract 0 ((ji11) : Int).toNat).toList))) else (foghornlaw19_ReedOne.j0 k bt211.1 bt213.1 true)) else (none)) else (none)) else (foghornlaw19_ReedOne.j0 k bt211.1 bt213.1 true)) else (foghornlaw19_ReedOne.j0 k bt211.1 bt213.1 true)) else (foghornlaw19_ReedOne.j0 k bt211.1 bt213.1 true)) else (foghornlaw19_ReedOne.j0 k bt211.1 bt213.1 true))))) else (none)) else (none)) else (none)) else (none)) = some r := by first | (rw [hji11] at H; exact H) | (simp only [hji11] at H ⊢; exact H)
      (try rw [hji11] at A3)
      (try rw [hji11] at A5)
      (try (have hji11h : ji11 ≤ 255 := by (rw [← hji11]; unfold mn; (repeat' split) <;> omega)))
      (try (have hji11g : ji11 ≤ 64 := by omega))
      (try (have hji11l : 0 ≤ ji11 := by (rw [← hji11]; unfold mn; (repeat' split) <;> omega)))
      (try (have hji11m : 0 ≤ ji11 := by omega))
      have hji11_ : (if 255 < (((t204 ++ (⟨#[7]⟩ : ByteArray)) ++ (strOfNums y206)).size : Int) then 255 else (((t204 ++ (⟨#[7]⟩ : ByteArray)) ++ (strOfNums y206)).size : Int)) = ji11 := hji11
      by_cases c12 : 0 ≤ (ji11)
      ·rw [if_pos c12] at H
       have c12b0 := eq_true c12
       have c12b1 : decide (0 ≤ (ji11)) = true := decide_eq_true c12
       clear c12
       by_cases c13 : (ji11) ≤ (((t204 ++ (⟨#[7]⟩ : ByteArray)) ++ (strOfNums y206)).size : Int)
       ·rw [if_pos c13] at H
        have c13b0 := eq_true c13
        have c13b1 : decide ((ji11) ≤ (((t204 ++ (⟨#[7]⟩ : ByteArray)) ++ (strOfNums y206)).size : Int)) = true := decide_eq_true c13
        obtain ⟨ji14, hji14⟩ : ∃ j_ : Int, (wrap64 (((((t204 ++ (⟨#[7]⟩ : ByteArray)) ++ (strOfNums y206)).extract 0 ((ji11) : Int).toNat).size : Int) - t205)) = j_ := ⟨_, rfl⟩
        replace H : (if 0 ≤ (ji14) then (if (ji14) ≤ ((((t204 ++ (⟨#[7]⟩ : ByteArray)) ++ (strOfNums y206)).extract 0 ((ji11) : Int).toNat).size : Int) then ((reed_Encode.f k ((((t204 ++ (⟨#[7]⟩ : ByteArray)) ++ (strOfNums y206)).extract 0 ((ji11) : Int).toNat).extract 0 ((ji14) : Int).toNat) t205).bind fun bt209 => ((reed_Whole.f k (((t204 ++ (⟨#[7]⟩ : ByteArray)) ++ (strOfNums y206)).extract 0 ((ji11) : Int).toNat) t205).bind fun bt211 => ((reed_Syndromes.f k (((t204 ++ (⟨#[7]⟩ : ByteArray)) ++ (strOfNums y206)).extract 0 ((ji11) : Int).toNat) t205).bind fun bt213 => (if bt209.2 = 0 then (if bt211.2 = 0 then (if bt213.2 = 0 then (if (bt209.1.size : Int) = ((((t204 ++ (⟨#[7]⟩ : ByteArray)) ++ (strOfNums y206)).extract 0 ((ji11) : Int).toNat).size : Int) then (if 0 ≤ (((((t204 ++ (⟨#[7]⟩ : ByteArray)) ++ (strOfNums y206)).extract 0 ((ji11) : Int).toNat).extract 0 ((ji14) : Int).toNat).size : Int) then (if (((((t204 ++ (⟨#[7]⟩ : ByteArray)) ++ (strOfNums y206)).extract 0 ((ji11) : Int).toNat).extract 0 ((ji14) : Int).toNat).size : Int) ≤ (bt209.1.size : Int) then (if (bt209.1.extract 0 ((((((t204 ++ (⟨#[7]⟩ : ByteArray)) ++ (strOfNums y206)).extract 0 ((ji11) : Int).toNat).extract 0 ((ji14) : Int).toNat).size : Int) : Int).toNat).toList = ((((t204 ++ (⟨#[7]⟩ : ByteArray)) ++ (strOfNums y206)).extract 0 ((ji11) : Int).toNat).extract 0 ((ji14) : Int).toNat).toList then (foghornlaw19_ReedOne.j0 k bt211.1 bt213.1 (bt211.1 != (bt209.1.toList == (((t204 ++ (⟨#[7]⟩ : ByteArray)) ++ (strOfNums y206)).extract 0 ((ji11) : Int).toNat).toList))) else (foghornlaw19_ReedOne.j0 k bt211.1 bt213.1 true)) else (none)) else (none)) else (foghornlaw19_ReedOne.j0 k bt211.1 bt213.1 true)) else (foghornlaw19_ReedOne.j0 k bt211.1 bt213.1 true)) else (foghornlaw19_ReedOne.j0 k bt211.1 bt213.1 true)) else (foghornlaw19_ReedOne.j0 k bt211.1 bt213.1 true))))) else (none)) else (none)) = some r := by first | (rw [hji14] at H; exact H) | (simp only [hji14] at H ⊢; exact H)
        (try rw [hji14] at A3)
        (try rw [hji14] at A5)
        have hji14w : (IntKind.i64.wrap (((((t204 ++ (⟨#[7]⟩ : ByteArray)) ++ (strOfNums y206)).extract 0 ((ji11) : Int).toNat).size : Int) - t205)) = ji14 := (i64_w _).trans hji14
        by_cases c15 : 0 ≤ (ji14)
        ·rw [if_pos c15] at H
         have c15b0 := eq_true c15
         have c15b1 : decide (0 ≤ (ji14)) = true := decide_eq_true c15
         clear c15
         by_cases c16 : (ji14) ≤ ((((t204 ++ (⟨#[7]⟩ : ByteArray)) ++ (strOfNums y206)).extract 0 ((ji11) : Int).toNat).size : Int)
         ·rw [if_pos c16] at H
          have c16b0 := eq_true c16
          have c16b1 : decide ((ji14) ≤ ((((t204 ++ (⟨#[7]⟩ : ByteArray)) ++ (strOfNums y206)).extract 0 ((ji11) : Int).toNat).size : Int)) = true := decide_eq_true c16
          replace H := Option.bind_eq_some_iff.mp H
          obtain ⟨⟨t209, t210⟩, A170, H⟩ := H
          replace H : ((reed_Whole.f k (((t204 ++ (⟨#[7]⟩ : ByteArray)) ++ (strOfNums y206)).extract 0 ((ji11) : Int).toNat) t205).bind fun bt211 => ((reed_Syndromes.f k (((t204 ++ (⟨#[7]⟩ : ByteArray)) ++ (strOfNums y206)).extract 0 ((ji11) : Int).toNat) t205).bind fun bt213 => (if t210 = 0 then (if bt211.2 = 0 then (if bt213.2 = 0 then (if (t209.size : Int) = ((((t204 ++ (⟨#[7]⟩ : ByteArray)) ++ (strOfNums y206)).extract 0 ((ji11) : Int).toNat).size : Int) then (if 0 ≤ (((((t204 ++ (⟨#[7]⟩ : ByteArray)) ++ (strOfNums y206)).extract 0 ((ji11) : Int).toNat).extract 0 ((ji14) : Int).toNat).size : Int) then (if (((((t204 ++ (⟨#[7]⟩ : ByteArray)) ++ (strOfNums y206)).extract 0 ((ji11) : Int).toNat).extract 0 ((ji14) : Int).toNat).size : Int) ≤ (t209.size : Int) then (if (t209.extract 0 ((((((t204 ++ (⟨#[7]⟩ : ByteArray)) ++ (strOfNums y206)).extract 0 ((ji11) : Int).toNat).extract 0 ((ji14) : Int).toNat).size : Int) : Int).toNat).toList = ((((t204 ++ (⟨#[7]⟩ : ByteArray)) ++ (strOfNums y206)).extract 0 ((ji11) : Int).toNat).extract 0 ((ji14) : Int).toNat).toList then (foghornlaw19_ReedOne.j0 k bt211.1 bt213.1 (bt211.1 != (t209.toList == (((t204 ++ (⟨#[7]⟩ : ByteArray)) ++ (strOfNums y206)).extract 0 ((ji11) : Int).toNat).toList))) else (foghornlaw19_ReedOne.j0 k bt211.1 bt213.1 true)) else (none)) else (none)) else (foghornlaw19_ReedOne.j0 k bt211.1 bt213.1 true)) else (foghornlaw19_ReedOne.j0 k bt211.1 bt213.1 true)) else (foghornlaw19_ReedOne.j0 k bt211.1 bt213.1 true)) else (foghornlaw19_ReedOne.j0 k bt211.1 bt213.1 true)))) = some r := H
          have A17 := Aside0.mk A170
          clear A170
          replace H := Option.bind_eq_some_iff.mp H
          obtain ⟨⟨t211, t212⟩, A180, H⟩ := H
          replace H : ((reed_Syndromes.f k (((t204 ++ (⟨#[7]⟩ : ByteArray)) ++ (strOfNums y206)).extract 0 ((ji11) : Int).toNat) t205).bind fun bt213 => (if t210 = 0 then (if t212 = 0 then (if bt213.2 = 0 then (if (t209.size : Int) = ((((t204 ++ (⟨#[7]⟩ : ByteArray)) ++ (strOfNums y206)).extract 0 ((ji11) : Int).toNat).size : Int) then (if 0 ≤ (((((t204 ++ (⟨#[7]⟩ : ByteArray)) ++ (strOfNums y206)).extract 0 ((ji11) : Int).toNat).extract 0 ((ji14) : Int).toNat).size : Int) then (if (((((t204 ++ (⟨#[7]⟩ : ByteArray)) ++ (strOfNums y206)).extract 0 ((ji11) : Int).toNat).extract 0 ((ji14) : Int).toNat).size : Int) ≤ (t209.size : Int) then (if (t209.extract 0 ((((((t204 ++ (⟨#[7]⟩ : ByteArray)) ++ (strOfNums y206)).extract 0 ((ji11) : Int).toNat).extract 0 ((ji14) : Int).toNat).size : Int) : Int).toNat).toList = ((((t204 ++ (⟨#[7]⟩ : ByteArray)) ++ (strOfNums y206)).extract 0 ((ji11) : Int).toNat).extract 0 ((ji14) : Int).toNat).toList then (foghornlaw19_ReedOne.j0 k t211 bt213.1 (t211 != (t209.toList == (((t204 ++ (⟨#[7]⟩ : ByteArray)) ++ (strOfNums y206)).extract 0 ((ji11) : Int).toNat).toList))) else (foghornlaw19_ReedOne.j0 k t211 bt213.1 true)) else (none)) else (none)) else (foghornlaw19_ReedOne.j0 k t211 bt213.1 true)) else (foghornlaw19_ReedOne.j0 k t211 bt213.1 true)) else (foghornlaw19_ReedOne.j0 k t211 bt213.1 true)) else (foghornlaw19_ReedOne.j0 k t211 bt213.1 true))) = some r := H
          have A18 := Aside0.mk A180
          clear A180
          replace H := Option.bind_eq_some_iff.mp H
          obtain ⟨⟨t213, t214⟩, A190, H⟩ := H
          replace H : (if t210 = 0 then (if t212 = 0 then (if t214 = 0 then (if (t209.size : Int) = ((((t204 ++ (⟨#[7]⟩ : ByteArray)) ++ (strOfNums y206)).extract 0 ((ji11) : Int).toNat).size : Int) then (if 0 ≤ (((((t204 ++ (⟨#[7]⟩ : ByteArray)) ++ (strOfNums y206)).extract 0 ((ji11) : Int).toNat).extract 0 ((ji14) : Int).toNat).size : Int) then (if (((((t204 ++ (⟨#[7]⟩ : ByteArray)) ++ (strOfNums y206)).extract 0 ((ji11) : Int).toNat).extract 0 ((ji14) : Int).toNat).size : Int) ≤ (t209.size : Int) then (if (t209.extract 0 ((((((t204 ++ (⟨#[7]⟩ : ByteArray)) ++ (strOfNums y206)).extract 0 ((ji11) : Int).toNat).extract 0 ((ji14) : Int).toNat).size : Int) : Int).toNat).toList = ((((t204 ++ (⟨#[7]⟩ : ByteArray)) ++ (strOfNums y206)).extract 0 ((ji11) : Int).toNat).extract 0 ((ji14) : Int).toNat).toList then (foghornlaw19_ReedOne.j0 k t211 t213 (t211 != (t209.toList == (((t204 ++ (⟨#[7]⟩ : ByteArray)) ++ (strOfNums y206)).extract 0 ((ji11) : Int).toNat).toList))) else (foghornlaw19_ReedOne.j0 k t211 t213 true)) else (none)) else (none)) else (foghornlaw19_ReedOne.j0 k t211 t213 true)) else (foghornlaw19_ReedOne.j0 k t211 t213 true)) else (foghornlaw19_ReedOne.j0 k t211 t213 true)) else (foghornlaw19_ReedOne.j0 k t211 t213 true)) = some r := H
          have A19 := Aside0.mk A190
          clear A190
          have HC20 := Aside0.mk H
          clear H
          have hz1_ : (if (255 : Int) < (t204.size : Int) + 1 + ((strOfNums y206).size : Int) then 255 else (t204.size : Int) + 1 + ((strOfNums y206).size : Int)) = ji11 := by rw [← hji11_]; simp only [ByteArray.size_append, Int.natCast_add]; rfl
          have hz2_ : wrap64 (((min ji11.toNat (t204.size + 1 + (strOfNums y206).size) : Nat) : Int) - t205) = ji14 := by rw [← hji14]; simp only [ByteArray.size_extract, ByteArray.size_append, Nat.sub_zero]; rfl
          have hz3_ : IntKind.i64.wrap (((min ji11.toNat (t204.size + 1 + (strOfNums y206).size) : Nat) : Int) - t205) = ji14 := (i64_w _).trans hz2_
          have hz4_ : (ji14 ≤ ((min ji11.toNat (t204.size + 1 + (strOfNums y206).size) : Nat) : Int)) = True := eq_true (by have h_ := of_decide_eq_true c16b1; rw [ByteArray.size_extract, ByteArray.size_append, ByteArray.size_append, Nat.sub_zero] at h_; exact h_)
          have hsy_ : (((t204 ++ (⟨#[7]⟩ : ByteArray)) ++ (strOfNums y206)).extract 0 ((ji11) : Int).toNat).size = min ji11.toNat (t204.size + 1 + (strOfNums y206).size) := by rw [ByteArray.size_extract, ByteArray.size_append, ByteArray.size_append, Nat.sub_zero]; rfl
          go_enter Try.func4, Try.ntmps4
          go_upto_region 10 with (first | ((with_reducible refine gate_callee (f := 17) rfl ?_); refine goesL_ (some 14) rfl rfl Try.func17 (by kernel_rfl) rfl #[] rfl (by (try simp only [List.map_toArray, List.map_cons, List.map_nil]); first | done | rfl | (simp only [List.length_drop, List.length_take]; rfl)) ?_; (with_reducible refine (foghornlaw19_works.calls k  true _ A3.out).mono ?_); rintro e w21 ⟨rfl, hb⟩; refine ⟨_, rfl, ?_⟩; have n0_ := Aside0.mk (below_step (by repeat (first | (with_reducible first | exact HB.out | apply below_alloc | apply pw_below_drewN | apply below_drew1) | exact HB.out)) hb); clear HB; have HB := n0_; clear n0_; (try clear hb); (try clear hb2); (try clear hk); (try clear hi)) | ((with_reducible refine gate_callee (f := 18) rfl ?_); refine goesL_ (some 19) rfl rfl Try.func18 (by kernel_rfl) rfl #[.string a0, .int .i64 a1] rfl (by (try simp only [List.map_toArray, List.map_cons, List.map_nil]); first | done | rfl | (simp only [List.length_drop, List.length_take]; rfl)) ?_; (with_reducible refine (foghornlaw19_fit.calls a0 a1 t204 t205 _ A5.out).mono ?_); rintro e w22 ⟨rfl, hb⟩; refine ⟨_, rfl, ?_⟩; have n0_ := Aside0.mk (below_step (by repeat (first | (with_reducible first | exact HB.out | apply below_alloc | apply pw_below_drewN | apply below_drew1) | exact HB.out)) hb); clear HB; have HB := n0_; clear n0_; (try clear hb); (try clear hb2); (try clear hk); (try clear hi)) | ((with_reducible refine gate_dst (N := 27) rfl ?_); (try (refine gate_guard (by rfl) ?_; dsimp only)); refine Kd.R_make (Kd.int .u8) _ 5 rfl (N := 27) rfl 29 _ _ rfl ji7 rfl rfl Try.underlying29 (.int .u8 0) 1 info5 rfl (by decide) (by omega) 0 (ok := fun _ => True) (okp := fun _ => True) rfl (fun _ hk => hk) trivial (of_decide_eq_true (by first | (with_reducible assumption) | assumption)) (Nat.le_trans (Nat.mul_le_mul_right _ (of_decide_eq_true (by first | (with_reducible assumption) | assumption) : ji7.toNat ≤ 281474976710656)) (by omega)) (Below.refl _ _) (Nat.le_refl _) ?_; intro v207 w23 ho24 hb hg_ hnew_; clear hg_ hnew_; (first | rw [← Ny206.out] at ho24 | (simp only [Int.reduceToNat] at ho24; rw [← Ny206.out] at ho24)); have n0_ := Aside0.mk (Kd.R_lower ho24 (below_size (by repeat (first | (with_reducible first | exact HB.out | apply below_alloc | apply pw_below_drewN | apply below_drew1) | exact HB.out)))); have n1_ := Aside0.mk (below_step (by repeat (first | (with_reducible first | exact HB.out | apply below_alloc | apply pw_below_drewN | apply below_drew1) | exact HB.out)) hb); clear HB; have HO208 := n0_; have HB := n1_; clear n0_ n1_; clear hb ho24; have hcv25 := own_string (P := Try.prog) Try.underlying29 Try.underlying5 Try.underlying9 (Kd.own_of_R HO208.out)) | ((with_reducible refine gate_callee (f := 19) rfl ?_); refine goesL_ (some 44) rfl rfl Try.func19 (by kernel_rfl) rfl #[.string ((((t204 ++ (⟨#[7]⟩ : ByteArray)) ++ (strOfNums y206)).extract 0 ((ji11) : Int).toNat).extract 0 ((ji14) : Int).toNat), .int .i64 t205] rfl (by (try simp only [List.map_toArray, List.map_cons, List.map_nil]); first | done | (simp only [hji11, hji14]; rfl) | rfl | (simp only [List.length_drop, List.length_take]; rfl)) ?_; (with_reducible refine (reed_Encode.calls k ((((t204 ++ (⟨#[7]⟩ : ByteArray)) ++ (strOfNums y206)).extract 0 ((ji11) : Int).toNat).extract 0 ((ji14) : Int).toNat) t205 t209 t210 _ A17.out).mono ?_); rintro e w26 ⟨rfl, hb⟩; refine ⟨_, rfl, ?_⟩; have n0_ := Aside0.mk (Kd.R_below (by (with_reducible repeat (first | apply Kd.R_alloc | apply Kd.R_drewN | apply Kd.R_drew)); exact HO208.out) hb); have n1_ := Aside0.mk (below_step (by repeat (first | (with_reducible first | exact HB.out | apply below_alloc | apply pw_below_drewN | apply below_drew1) | exact HB.out)) hb); clear HO208; clear HB; have HO208 := n0_; have HB := n1_; clear n0_ n1_; (try clear hb); (try clear hb2); (try clear hk); (try clear hi)) | ((with_reducible refine gate_callee (f := 21) rfl ?_); refine goesL_ (some 50) rfl rfl Try.func21 (by kernel_rfl) rfl #[.string (((t204 ++ (⟨#[7]⟩ : ByteArray)) ++ (strOfNums y206)).extract 0 ((ji11) : Int).toNat), .int .i64 t205] rfl (by (try simp only [List.map_toArray, List.map_cons, List.map_nil]); first | done | (simp only [hji11]; rfl) | rfl | (simp only [List.length_drop, List.length_take]; rfl)) ?_; (with_reducible refine (reed_Whole.calls k (((t204 ++ (⟨#[7]⟩ : ByteArray)) ++ (strOfNums y206)).extract 0 ((ji11) : Int).toNat) t205 t211 t212 _ A18.out).mono ?_); rintro e w27 ⟨rfl, hb⟩; refine ⟨_, rfl, ?_⟩; have n0_ := Aside0.mk (Kd.R_below (by (with_reducible repeat (first | apply Kd.R_alloc | apply Kd.R_drewN | apply Kd.R_drew)); exact HO208.out) hb); have n1_ := Aside0.mk (below_step (by repeat (first | (with_reducible first | exact HB.out | apply below_alloc | apply pw_below_drewN | apply below_drew1) | exact HB.out)) hb); clear HO208; clear HB; have HO208 := n0_; have HB := n1_; clear n0_ n1_; (try clear hb); (try clear hb2); (try clear hk); (try clear hi)) | ((with_reducible refine gate_callee (f := 22) rfl ?_); refine goesL_ (some 56) rfl rfl Try.func22 (by kernel_rfl) rfl #[.string (((t204 ++ (⟨#[7]⟩ : ByteArray)) ++ (strOfNums y206)).extract 0 ((ji11) : Int).toNat), .int .i64 t205] rfl (by (try simp only [List.map_toArray, List.map_cons, List.map_nil]); first | done | (simp only [hji11]; rfl) | rfl | (simp only [List.length_drop, List.length_take]; rfl)) ?_; (with_reducible refine (reed_Syndromes.calls k (((t204 ++ (⟨#[7]⟩ : ByteArray)) ++ (strOfNums y206)).extract 0 ((ji11) : Int).toNat) t205 t213 t214 _ A19.out).mono ?_); rintro e w28 ⟨v215, rfl, ho0, hb⟩; refine ⟨_, rfl, ?_⟩; have n0_ := Aside0.mk (Kd.R_elder' (by (with_reducible repeat (first | apply Kd.R_alloc | apply Kd.R_drewN | apply Kd.R_drew)); exact HO208.out) (Kd.R_base ho0) hb); have n1_ := Aside0.mk (Kd.R_lower (Kd.R_new' ho0 (Kd.R_lt (by (with_reducible repeat (first | apply Kd.R_alloc | apply Kd.R_drewN | apply Kd.R_drew)); exact HO208.out))) (below_size (by repeat (first | (with_reducible first | exact HB.out | apply below_alloc | apply pw_below_drewN | apply below_drew1) | exact HB.out)))); have n2_ := Aside0.mk (below_step (by repeat (first | (with_reducible first | exact HB.out | apply below_alloc | apply pw_below_drewN | apply below_drew1) | exact HB.out)) hb); clear HO208; clear HB; have HO208 := n0_; have HO216 := n1_; have HB := n2_; clear n0_ n1_ n2_; (try clear hb); (try clear hb2); (try clear hk); (try clear hi); (try clear ho0)))
          (try simp only [Act.put, List.setIfInBounds_toArray, List.set_cons_zero, List.set_cons_succ])
          go_cut [90] (fun v90 wc => ∃ (kq : Nat) (x90_19 : Bool), v90 = .bool x90_19 ∧ Aside0 (foghornlaw19_ReedOne.j0 kq t211 t213 x90_19 = some r) ∧ Aside0 (kq ≤ k) ∧ Aside0 (Kd.R (Kd.int .u8) 5 wc w.heap.size (fun _ => True) v215 t213) ∧ Aside0 (Below w.heap.size w wc))
          case first =>
           have H := HC20.out
           clear HC20
           by_cases c29 : t210 = 0
           ·rw [if_pos c29] at H
            have c29b0 : (t210 == 0) = true := beq_iff_eq.mpr c29
            have c29b1 : (t210 != 0) = false := bne_eq_false_iff_eq.mpr c29
            clear c29
            (first | rw [c29b0] | (simp only [i64_w, i32_w]; rw [c29b0]) | skip)
            by_cases c30 : t212 = 0
            ·rw [if_pos c30] at H
             have c30b0 : (t212 == 0) = true := beq_iff_eq.mpr c30
             have c30b1 : (t212 != 0) = false := bne_eq_false_iff_eq.mpr c30
             clear c30
             by_cases c31 : t214 = 0
             ·rw [if_pos c31] at H
              have c31b0 : (t214 == 0) = true := beq_iff_eq.mpr c31
              have c31b1 : (t214 != 0) = false := bne_eq_false_iff_eq.mpr c31
              clear c31
              by_cases c32 : (t209.size : Int) = ((((t204 ++ (⟨#[7]⟩ : ByteArray)) ++ (strOfNums y206)).extract 0 ((ji11) : Int).toNat).size : Int)
              ·rw [if_pos c32] at H
               have c32b0 : ((t209.size : Int) == ((((t204 ++ (⟨#[7]⟩ : ByteArray)) ++ (strOfNums y206)).extract 0 ((ji11) : Int).toNat).size : Int)) = true := beq_iff_eq.mpr c32
               have c32b0y := c32b0; (try rw [hsy_] at c32b0y)
               have c32b1 : ((t209.size : Int) != ((((t204 ++ (⟨#[7]⟩ : ByteArray)) ++ (strOfNums y206)).extract 0 ((ji11) : Int).toNat).size : Int)) = false := bne_eq_false_iff_eq.mpr c32
               have c32b1y := c32b1; (try rw [hsy_] at c32b1y)
               have c32b2 : (t209.size == (((t204 ++ (⟨#[7]⟩ : ByteArray)) ++ (strOfNums y206)).extract 0 ((ji11) : Int).toNat).size) = true := by first | simpa using c32 | (simp at c32 ⊢; omega)
               have c32b2y := c32b2; (try rw [hsy_] at c32b2y)
               clear c32
               by_cases c33 : 0 ≤ (((((t204 ++ (⟨#[7]⟩ : ByteArray)) ++ (strOfNums y206)).extract 0 ((ji11) : Int).toNat).extract 0 ((ji14) : Int).toNat).size : Int)
               ·rw [if_pos c33] at H
                have c33b0 := eq_true c33
                have c33b1 : decide (0 ≤ (((((t204 ++ (⟨#[7]⟩ : ByteArray)) ++ (strOfNums y206)).extract 0 ((ji11) : Int).toNat).extract 0 ((ji14) : Int).toNat).size : Int)) = true := decide_eq_true c33
                by_cases c34 : (((((t204 ++ (⟨#[7]⟩ : ByteArray)) ++ (strOfNums y206)).extract 0 ((ji11) : Int).toNat).extract 0 ((ji14) : Int).toNat).size : Int) ≤ (t209.size : Int)
                ·rw [if_pos c34] at H
                 have c34b0 := eq_true c34
                 have c34b1 : decide ((((((t204 ++ (⟨#[7]⟩ : ByteArray)) ++ (strOfNums y206)).extract 0 ((ji11) : Int).toNat).extract 0 ((ji14) : Int).toNat).size : Int) ≤ (t209.size : Int)) = true := decide_eq_true c34
                 have hz5_ : max ji14 0 = ji14 := Int.max_eq_left (of_decide_eq_true c15b1)
                 have hsz_ : ((((((t204 ++ (⟨#[7]⟩ : ByteArray)) ++ (strOfNums y206)).extract 0 ((ji11) : Int).toNat).extract 0 ((ji14) : Int).toNat).size : Int) : Int).toNat = ji14.toNat := by have h_ := of_decide_eq_true c16b1; have g_ := of_decide_eq_true c15b1; rw [ByteArray.size_extract] at h_ ⊢; omega
                 have hz6_ : (ji14 ≤ (t209.size : Int)) = True := eq_true (by have h_ := of_decide_eq_true c34b1; have g_ := of_decide_eq_true c15b1; omega)
                 by_cases c35 : (t209.extract 0 ((((((t204 ++ (⟨#[7]⟩ : ByteArray)) ++ (strOfNums y206)).extract 0 ((ji11) : Int).toNat).extract 0 ((ji14) : Int).toNat).size : Int) : Int).toNat).toList = ((((t204 ++ (⟨#[7]⟩ : ByteArray)) ++ (strOfNums y206)).extract 0 ((ji11) : Int).toNat).extract 0 ((ji14) : Int).toNat).toList
                 ·rw [if_pos c35] at H
                  have c35b0 : ((t209.extract 0 ((((((t204 ++ (⟨#[7]⟩ : ByteArray)) ++ (strOfNums y206)).extract 0 ((ji11) : Int).toNat).extract 0 ((ji14) : Int).toNat).size : Int) : Int).toNat).toList == ((((t204 ++ (⟨#[7]⟩ : ByteArray)) ++ (strOfNums y206)).extract 0 ((ji11) : Int).toNat).extract 0 ((ji14) : Int).toNat).toList) = true := beq_iff_eq.mpr c35
                  have c35b0z := c35b0; (try rw [hsz_] at c35b0z)
                  have c35b1 : ((t209.extract 0 ((((((t204 ++ (⟨#[7]⟩ : ByteArray)) ++ (strOfNums y206)).extract 0 ((ji11) : Int).toNat).extract 0 ((ji14) : Int).toNat).size : Int) : Int).toNat).toList != ((((t204 ++ (⟨#[7]⟩ : ByteArray)) ++ (strOfNums y206)).extract 0 ((ji11) : Int).toNat).extract 0 ((ji14) : Int).toNat).toList) = false := bne_eq_false_iff_eq.mpr c35
                  have c35b1z := c35b1; (try rw [hsz_] at c35b1z)
                  clear c35
                  as_aux_lemma =>
                   have H' := Aside0.mk H
                   clear H
                   go_wp2
                   go_meet
                   case rel => exact ⟨_, ((t211 != (t209.toList == (((t204 ++ (⟨#[7]⟩ : ByteArray)) ++ (strOfNums y206)).extract 0 ((ji11) : Int).toNat).toList))), (by first | (simp only [bne]; done) | rfl | (simp; done) | (simp only [← hji11] <;> (first | rfl | simp)) | (simp [*]; done)), H', ⟨by first | omega | exact Nat.le_refl _⟩, ⟨by (with_reducible repeat (first | apply Kd.R_alloc | apply Kd.R_drewN | apply Kd.R_drew)); exact Kd.R_mono HO216.out (fun _ hk => trivial)⟩, ⟨by repeat (first | (with_reducible first | exact HB.out | apply below_alloc | apply pw_below_drewN | apply below_drew1) | exact HB.out)⟩⟩
                 ·rw [if_neg c35] at H
                  have c35b0 : ((t209.extract 0 ((((((t204 ++ (⟨#[7]⟩ : ByteArray)) ++ (strOfNums y206)).extract 0 ((ji11) : Int).toNat).extract 0 ((ji14) : Int).toNat).size : Int) : Int).toNat).toList == ((((t204 ++ (⟨#[7]⟩ : ByteArray)) ++ (strOfNums y206)).extract 0 ((ji11) : Int).toNat).extract 0 ((ji14) : Int).toNat).toList) = false := beq_eq_false_iff_ne.mpr c35
                  have c35b0z := c35b0; (try rw [hsz_] at c35b0z)
                  have c35b1 : ((t209.extract 0 ((((((t204 ++ (⟨#[7]⟩ : ByteArray)) ++ (strOfNums y206)).extract 0 ((ji11) : Int).toNat).extract 0 ((ji14) : Int).toNat).size : Int) : Int).toNat).toList != ((((t204 ++ (⟨#[7]⟩ : ByteArray)) ++ (strOfNums y206)).extract 0 ((ji11) : Int).toNat).extract 0 ((ji14) : Int).toNat).toList) = true := bne_iff_ne.mpr c35
                  have c35b1z := c35b1; (try rw [hsz_] at c35b1z)
                  as_aux_lemma =>
                   have H' := Aside0.mk H
                   clear H
                   go_wp2
                   go_meet
                   case rel => exact ⟨_, (true), (by first | rfl | (simp; done) | (simp [*]; done)), H', ⟨by first | omega | exact Nat.le_refl _⟩, ⟨by (with_reducible repeat (first | apply Kd.R_alloc | apply Kd.R_drewN | apply Kd.R_drew)); exact Kd.R_mono HO216.out (fun _ hk => trivial)⟩, ⟨by repeat (first | (with_reducible first | exact HB.out | apply below_alloc | apply pw_below_drewN | apply below_drew1) | exact HB.out)⟩⟩
                ·rw [if_neg c34] at H
                 exact absurd H (by simp)
               ·rw [if_neg c33] at H
                exact absurd H (by simp)
              ·rw [if_neg c32] at H
               have c32b0 : ((t209.size : Int) == ((((t204 ++ (⟨#[7]⟩ : ByteArray)) ++ (strOfNums y206)).extract 0 ((ji11) : Int).toNat).size : Int)) = false := beq_eq_false_iff_ne.mpr c32
               have c32b0y := c32b0; (try rw [hsy_] at c32b0y)
               have c32b1 : ((t209.size : Int) != ((((t204 ++ (⟨#[7]⟩ : ByteArray)) ++ (strOfNums y206)).extract 0 ((ji11) : Int).toNat).size : Int)) = true := bne_iff_ne.mpr c32
               have c32b1y := c32b1; (try rw [hsy_] at c32b1y)
               have c32b2 : (t209.size == (((t204 ++ (⟨#[7]⟩ : ByteArray)) ++ (strOfNums y206)).extract 0 ((ji11) : Int).toNat).size) = false := beq_eq_false_iff_ne.mpr (by omega)
               have c32b2y := c32b2; (try rw [hsy_] at c32b2y)
               as_aux_lemma =>
                have H' := Aside0.mk H
                clear H
                go_wp2
                go_meet
                case rel => exact ⟨_, (true), (by first | rfl | (simp; done) | (simp [*]; done)), H', ⟨by first | omega | exact Nat.le_refl _⟩, ⟨by (with_reducible repeat (first | apply Kd.R_alloc | apply Kd.R_drewN | apply Kd.R_drew)); exact Kd.R_mono HO216.out (fun _ hk => trivial)⟩, ⟨by repeat (first | (with_reducible first | exact HB.out | apply below_alloc | apply pw_below_drewN | apply below_drew1) | exact HB.out)⟩⟩
             ·rw [if_neg c31] at H
              have c31b0 : (t214 == 0) = false := beq_eq_false_iff_ne.mpr c31
              have c31b1 : (t214 != 0) = true := bne_iff_ne.mpr c31
              as_aux_lemma =>
               have H' := Aside0.mk H
               clear H
               go_wp2
               go_meet
               case rel => exact ⟨_, (true), (by first | rfl | (simp; done) | (simp [*]; done)), H', ⟨by first | omega | exact Nat.le_refl _⟩, ⟨by (with_reducible repeat (first | apply Kd.R_alloc | apply Kd.R_drewN | apply Kd.R_drew)); exact Kd.R_mono HO216.out (fun _ hk => trivial)⟩, ⟨by repeat (first | (with_reducible first | exact HB.out | apply below_alloc | apply pw_below_drewN | apply below_drew1) | exact HB.out)⟩⟩
            ·rw [if_neg c30] at H
             have c30b0 : (t212 == 0) = false := beq_eq_false_iff_ne.mpr c30
             have c30b1 : (t212 != 0) = true := bne_iff_ne.mpr c30
             as_aux_lemma =>
              have H' := Aside0.mk H
              clear H
              go_wp2
              go_meet
              case rel => exact ⟨_, (true), (by first | rfl | (simp; done) | (simp [*]; done)), H', ⟨by first | omega | exact Nat.le_refl _⟩, ⟨by (with_reducible repeat (first | apply Kd.R_alloc | apply Kd.R_drewN | apply Kd.R_drew)); exact Kd.R_mono HO216.out (fun _ hk => trivial)⟩, ⟨by repeat (first | (with_reducible first | exact HB.out | apply below_alloc | apply pw_below_drewN | apply below_drew1) | exact HB.out)⟩⟩
           ·rw [if_neg c29] at H
            have c29b0 : (t210 == 0) = false := beq_eq_false_iff_ne.mpr c29
            have c29b1 : (t210 != 0) = true := bne_iff_ne.mpr c29
            (first | rw [c29b0] | (simp only [i64_w, i32_w]; rw [c29b0]) | skip)
            as_aux_lemma =>
             have H' := Aside0.mk H
             clear H
             go_wp2
             go_meet
             case rel => exact ⟨_, (true), (by first | rfl | (simp; done) | (simp [*]; done)), H', ⟨by first | omega | exact Nat.le_refl _⟩, ⟨by (with_reducible repeat (first | apply Kd.R_alloc | apply Kd.R_drewN | apply Kd.R_drew)); exact Kd.R_mono HO216.out (fun _ hk => trivial)⟩, ⟨by repeat (first | (with_reducible first | exact HB.out | apply below_alloc | apply pw_below_drewN | apply below_drew1) | exact HB.out)⟩⟩
          case rest =>
           clear HC20
           try clear c1
           try clear c2
           try clear p2
           try clear hcv2
           try clear c3
           try clear c4
           try clear c6
           try clear c6b0
           try clear c6b1
           try clear c6b2
           try clear p6
           try clear c8
           try clear c8b0
           try clear c8b1
           try clear c9
           try clear c9b0
           try clear c9b1
           try clear c10
           try clear c10b0
           try clear c10b1
           try clear c10b2
           try clear c12
           try clear c12b0
           try clear c12b1
           try clear c13
           try clear c13b0
           try clear c13b1
           try clear c15
           try clear c15b0
           try clear c15b1
           try clear c16
           try clear c16b0
           try clear c16b1
           try clear c17
           try clear c18
           try clear c19
           try clear c21
           try clear c22
           try clear hcv25
           try clear c29
           try clear c29b0
           try clear c29b1
           try clear c30
           try clear c30b0
           try clear c30b1
           try clear c31
           try clear c31b0
           try clear c31b1
           try clear c32
           try clear c32b0
           try clear c32b1
           try clear c32b2
           try clear c33
           try clear c33b0
           try clear c33b1
           try clear c34
           try clear c34b0
           try clear c34b1
           try clear c35
           try clear c35b0
           try clear c35b1
           obtain ⟨kq, x90_19, rfl, HA, HJ19, HO_10, HB⟩ := hcut
           cases kq with
           | zero => exact absurd HA.out (by simp [foghornlaw19_ReedOne.j0])
           | succ kj19 =>
            have H := HA.out
            clear HA
            simp only [foghornlaw19_ReedOne.j0] at H
            by_cases c36 : x90_19 = true
            ·subst c36
             have H1 : (some false) = some r := by rw [if_pos rfl] at H; exact H
             clear H
             have H := H1
             clear H1
             as_aux_lemma =>
              exact absurd ((Option.some.inj H).trans HQ_.out) (by decide)
            ·replace c36 := Bool.eq_false_iff.mpr c36
             subst c36
             have H1 : (foghornlaw19_ReedOne.l0 kj19 t211 t213 true 0) = some r := by rw [if_neg (show ¬ (false = true) by decide)] at H; exact H
             clear H
             have H := H1
             clear H1
             have H' := Aside0.mk H
             clear H
             go_wp2
             go_loopg [12, 13] kj19 (fun kq v12 v13 w' => ∃ (x12_2 : Bool) (x13_2 : Int), v12 = .bool x12_2 ∧ v13 = .int .i64 x13_2 ∧ Aside0 (foghornlaw19_ReedOne.l0 kq t211 t213 x12_2 x13_2 = some r) ∧ Aside0 (kq ≤ kj19) ∧ Aside0 (Kd.R (Kd.int .u8) 5 w' w.heap.size (fun _ => True) v215 t213) ∧ Aside0 (Below w.heap.size w w'))
             case atStart => exact ⟨(true), (0), (by first | rfl | (simp; done) | (simp [*]; done)), (by first | rfl | (simp; done) | (simp [*]; done)), H', ⟨Nat.le_refl _⟩, ⟨by (with_reducible repeat (first | apply Kd.R_alloc | apply Kd.R_drewN | apply Kd.R_drew)); exact HO_10.out⟩, ⟨by repeat (first | (with_reducible first | exact HB.out | apply below_alloc | apply pw_below_drewN | apply below_drew1) | exact HB.out)⟩⟩
             case round =>
              clear H'
              try clear c1
              try clear c2
              try clear p2
              try clear hcv2
              try clear c3
              try clear c4
              try clear c6
              try clear c6b0
              try clear c6b1
              try clear c6b2
              try clear p6
              try clear c8
              try clear c8b0
              try clear c8b1
              try clear c9
              try clear c9b0
              try clear c9b1
              try clear c10
              try clear c10b0
              try clear c10b1
              try clear c10b2
              try clear c12
              try clear c12b0
              try clear c12b1
              try clear c13
              try clear c13b0
              try clear c13b1
              try clear c15
              try clear c15b0
              try clear c15b1
              try clear c16
              try clear c16b0
              try clear c16b1
              try clear c17
              try clear c18
              try clear c19
              try clear c21
              try clear c22
              try clear hcv25
              try clear c29
              try clear c29b0
              try clear c29b1
              try clear c30
              try clear c30b0
              try clear c30b1
              try clear c31
              try clear c31b0
              try clear c31b1
              try clear c32
              try clear c32b0
              try clear c32b1
              try clear c32b2
              try clear c33
              try clear c33b0
              try clear c33b1
              try clear c34
              try clear c34b0
              try clear c34b1
              try clear c35
              try clear c35b0
              try clear c35b1
              try clear c36
              try clear p2
              try clear p6
              obtain ⟨x12_2, x13_2, rfl, rfl, HA, HK2, HO_10, HB⟩ := hrel
              cases gk with
              | zero => exact absurd HA.out (by simp [foghornlaw19_ReedOne.l0])
              | succ k2 =>
               have H := HA.out
               clear HA
               simp only [foghornlaw19_ReedOne.l0] at H
               by_cases c37 : x13_2 < (t213.length : Int)
               ·rw [if_pos c37] at H
                have c37b0 : decide (x13_2 < (t213.length : Int)) = true := decide_eq_true c37
                clear c37
                by_cases c38 : x12_2 = true
                ·subst c38
                 have H1 : (if 0 ≤ x13_2 then (foghornlaw19_ReedOne.l0 k2 t211 t213 ((rd t213 x13_2) == 0) (wrap64 (x13_2 + 1))) else (none)) = some r := by rw [if_pos rfl] at H; exact H
                 clear H
                 have H := H1
                 clear H1
                 by_cases c39 : 0 ≤ x13_2
                 ·rw [if_pos c39] at H
                  have c39b0 : decide (0 ≤ x13_2) = true := decide_eq_true c39
                  clear c39
                  as_aux_lemma =>
                   have H' := Aside0.mk H
                   clear H
                   obtain ⟨Ao40, co40, eo40⟩ := Kd.R_slice HO_10.out
                   subst eo40
                   have p217 : 0 ≤ (x13_2 : Int) := of_decide_eq_true (by first | (with_reducible assumption) | assumption)
                   have q217 : x13_2 < (t213.length : Int) := of_decide_eq_true (by first | (with_reducible assumption) | assumption)
                   obtain ⟨ad217, e217, hx217_0⟩ := Kd.at_int (Kd.R_reads' HO_10.out).2.2 x13_2 p217 q217
                   cases e217
                   replace p217 := eq_true p217
                   replace q217 := eq_true q217
                   go_wp2
                   first | go_roundg k2 | (simp only [add_plain] at *; go_roundg k2)
                   case measure => have := HJ19.out; have := HK2.out; omega
                   case rel => exact ⟨(((rd t213 x13_2) == 0)), (wrap64 (x13_2 + 1)), (by first | rfl | (simp; done) | (simp [*]; done)), (by first | rfl | (simp; done) | (simp [*]; done)), H', ⟨by have := HJ19.out; have := HK2.out; omega⟩, ⟨by (with_reducible repeat (first | apply Kd.R_alloc | apply Kd.R_drewN | apply Kd.R_drew)); exact HO_10.out⟩, ⟨by repeat (first | (with_reducible first | exact HB.out | apply below_alloc | apply pw_below_drewN | apply below_drew1) | exact HB.out)⟩⟩
                 ·rw [if_neg c39] at H
                  exact absurd H (by simp)
                ·replace c38 := Bool.eq_false_iff.mpr c38
                 subst c38
                 have H1 : (foghornlaw19_ReedOne.l0 k2 t211 t213 false (wrap64 (x13_2 + 1))) = some r := by rw [if_neg (show ¬ (false = true) by decide)] at H; exact H
                 clear H
                 have H := H1
                 clear H1
                 as_aux_lemma =>
                  have H' := Aside0.mk H
                  clear H
                  obtain ⟨Ao41, co41, eo41⟩ := Kd.R_slice HO_10.out
                  subst eo41
                  go_wp2
                  first | go_roundg k2 | (simp only [add_plain] at *; go_roundg k2)
                  case measure => have := HJ19.out; have := HK2.out; omega
                  case rel => exact ⟨(false), (wrap64 (x13_2 + 1)), (by first | rfl | (simp; done) | (simp [*]; done)), (by first | rfl | (simp; done) | (simp [*]; done)), H', ⟨by have := HJ19.out; have := HK2.out; omega⟩, ⟨by (with_reducible repeat (first | apply Kd.R_alloc | apply Kd.R_drewN | apply Kd.R_drew)); exact HO_10.out⟩, ⟨by repeat (first | (with_reducible first | exact HB.out | apply below_alloc | apply pw_below_drewN | apply below_drew1) | exact HB.out)⟩⟩
               ·rw [if_neg c37] at H
                have c37b0 : decide (x13_2 < (t213.length : Int)) = false := decide_eq_false c37
                clear c37
                as_aux_lemma =>
                 obtain rfl := Option.some.inj H
                 obtain ⟨Ao42, co42, eo42⟩ := Kd.R_slice HO_10.out
                 subst eo42
                 go_wp2
                 go_ret
                 exact ⟨by first | rfl | (simp [errW_none, errW_some] <;> rfl) | (simp only [← hji7, ← hji11, ← hji14]; first | rfl | (simp [errW_none, errW_some] <;> rfl)) | (simp [*, errW_none, errW_some] <;> rfl), by repeat (first | (with_reducible first | exact HB.out | apply below_alloc | apply pw_below_drewN | apply below_drew1) | exact HB.out)⟩
         ·rw [if_neg c16] at H
          exact absurd H (by simp)
        ·rw [if_neg c15] at H
         exact absurd H (by simp)
       ·rw [if_neg c13] at H
        exact absurd H (by simp)
      ·rw [if_neg c12] at H
       exact absurd H (by simp)
     ·rw [if_neg c10] at H
      exact absurd H (by simp)
    ·rw [if_neg c9] at H
     exact absurd H (by simp)
   ·rw [if_neg c8] at H
    exact absurd H (by simp)
  ·rw [if_neg c6] at H
   exact absurd H (by simp)
 ·replace c4 := Bool.eq_false_iff.mpr c4
  subst c4
  have H1 : (some false) = some r := by rw [if_neg (show ¬ (false = true) by decide)] at H; exact H
  clear H
  have H := H1
  clear H1
  as_aux_lemma =>
   exact absurd ((Option.some.inj H).trans HQ_.out) (by decide)

theorem foghornlaw19_ReedOne.walk (P : foghornlaw19_ReedOne.Pure) (a0 : ByteArray) (a1 : Int) (w : World) (w0 : a0.size ≤ 140737488351232) (w1 : (Lit.int .i64 a1).wf = true) :
  Calls Try.prog 4 #[.string a0, .int .i64 a1] w fun e w' => e = .returned (.bool true) ∧ Below w.heap.size w w' := by
 obtain ⟨k, h⟩ := P a0 a1 w0 w1
 refine (foghornlaw19_ReedOne.calls k a0 a1 true w h rfl).mono ?_
 rintro e w' ⟨rfl, hd⟩
 exact ⟨rfl, hd⟩

end Go.Proofs.Ytncoakokdajibaa.Q
