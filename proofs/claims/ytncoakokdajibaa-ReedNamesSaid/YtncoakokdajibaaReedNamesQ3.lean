-- Printed by myprint.py (ours) over the kit's printer, out of the translation.
import Derived.Test.YtncoakokdajibaaReedNamesK0
import Derived.Test.YtncoakokdajibaaReedNamesF0
import Derived.Test.YtncoakokdajibaaReedNamesQ0
import Derived.Test.YtncoakokdajibaaReedNamesQ1
import Derived.Test.YtncoakokdajibaaReedNamesQ2
namespace Go.Proofs.Ytncoakokdajibaa.Q
open Go.RowKit Go.Proofs.YtncoakokdajibaaW.PrintWords Go.Proofs.YtncoakokdajibaaW.PrintLast Go.Proofs.YtncoakokdajibaaW.PrintMore
attribute [local go_sem] ArrW.ptrOf_slice max2_int min2_int max_two min_two max_three min_three max_four min_four   -- for this text's walks alone
set_option linter.unusedVariables false
set_option linter.unusedSimpArgs false

/-! ### foghornlaw19_ReedNames: function 7 -/
set_option maxHeartbeats 8000000 in
set_option maxRecDepth 100000 in
theorem foghornlaw19_ReedNames.calls (k : Nat)  (r : Bool) (w : World) (h : foghornlaw19_ReedNames.f k  = some r) (hq_ : r = true) :
  Calls Try.prog 7 #[] w fun e w' => e = .returned (.bool r) ∧ Below w.heap.size w w' := by
 have HQ_ := Aside0.mk hq_
 clear hq_
 have HB := Aside0.mk (Below.refl w.heap.size w)
 have H : ((foghornlaw19_works.f k).bind fun t336 => (if t336 = true then (if 32769 ≤ 281474976710656 then ((some (List.replicate 32769 0 : List Int)).bind fun y337 => (if 0 ≤ 191 then (if 191 ≤ ((strOfNums y337).size : Int) then ((reed_Encode.f k ((strOfNums y337).extract 0 191) 64).bind fun bt340 => (if 0 ≤ 192 then (if 192 ≤ ((strOfNums y337).size : Int) then ((reed_Encode.f k ((strOfNums y337).extract 0 192) 64).bind fun bt342 => (if 0 ≤ 9 then (if 9 ≤ ((strOfNums y337).size : Int) then ((reed_Encode.f k ((strOfNums y337).extract 0 9) 66).bind fun bt344 => (if 0 ≤ 32768 then (if 32768 ≤ ((strOfNums y337).size : Int) then ((reed_Words.f k ((strOfNums y337).extract 0 32768) 255 64).bind fun bt346 => ((reed_Words.f k (strOfNums y337) 255 64).bind fun bt350 => ((reed_Message.f k bt346.1 64).bind fun bt354 => ((some (([] : List ByteArray) : List ByteArray)).bind fun y356 => (if y356.length + bt346.1.length < 8796093022208 then ((some (y356 ++ bt346.1 : List ByteArray)).bind fun y359 => (if 65 ≤ 281474976710656 then ((some (([strOfNums (List.replicate 65 0)] : List ByteArray) : List ByteArray)).bind fun y365 => (if y359.length + y365.length < 8796093022208 then ((reed_Message.f k (y359 ++ y365) 64).bind fun bt371 => ((reed_Generator.f k 64).bind fun bt373 => (if bt340.2 = 0 then (if bt342.2 = 1 then (if bt344.2 = 1 then (if bt346.2 = 0 then (if bt350.2 = 1 then (if bt354.2 = 0 then (if bt371.2 = 1 then (if bt373.2 = 0 then (if (bt340.1.size : Int) = 255 then (if (bt346.1.length : Int) = 172 then (if bt354.1.toList = ((strOfNums y337).extract 0 32768).toList then (if (bt373.1.length : Int) = 65 then (if 64 < (bt373.1.length : Int) then (if (rd bt373.1 64) = 1 then ((reed_Check.f 255 64).bind fun t378 => (if t378 = 0 then ((reed_Check.f 256 64).bind fun t379 => (if t379 = 1 then ((reed_Check.f 65 64).bind fun t380 => (if t380 = 0 then ((reed_Check.f 64 64).bind fun t381 => (if t381 = 1 then ((reed_Check.f 9 3).bind fun t382 => (some (t382 == 1))) else (some false))) else (some false))) else (some false))) else (some false))) else (some false)) else (none)) else (some false)) else (some false)) else (some false)) else (some false)) else (some false)) else (some false)) else (some false)) else (some false)) else (some false)) else (some false)) else (some false)) else (some false)))) else (none))) else (none))) else (none)))))) else (none)) else (none))) else (none)) else (none))) else (none)) else (none))) else (none)) else (none))) else (none)) else (some false))) = some r := h
 clear h
 replace H := Option.bind_eq_some_iff.mp H
 obtain ⟨t336, A10, H⟩ := H
 replace H : (if t336 = true then (if 32769 ≤ 281474976710656 then ((some (List.replicate 32769 0 : List Int)).bind fun y337 => (if 0 ≤ 191 then (if 191 ≤ ((strOfNums y337).size : Int) then ((reed_Encode.f k ((strOfNums y337).extract 0 191) 64).bind fun bt340 => (if 0 ≤ 192 then (if 192 ≤ ((strOfNums y337).size : Int) then ((reed_Encode.f k ((strOfNums y337).extract 0 192) 64).bind fun bt342 => (if 0 ≤ 9 then (if 9 ≤ ((strOfNums y337).size : Int) then ((reed_Encode.f k ((strOfNums y337).extract 0 9) 66).bind fun bt344 => (if 0 ≤ 32768 then (if 32768 ≤ ((strOfNums y337).size : Int) then ((reed_Words.f k ((strOfNums y337).extract 0 32768) 255 64).bind fun bt346 => ((reed_Words.f k (strOfNums y337) 255 64).bind fun bt350 => ((reed_Message.f k bt346.1 64).bind fun bt354 => ((some (([] : List ByteArray) : List ByteArray)).bind fun y356 => (if y356.length + bt346.1.length < 8796093022208 then ((some (y356 ++ bt346.1 : List ByteArray)).bind fun y359 => (if 65 ≤ 281474976710656 then ((some (([strOfNums (List.replicate 65 0)] : List ByteArray) : List ByteArray)).bind fun y365 => (if y359.length + y365.length < 8796093022208 then ((reed_Message.f k (y359 ++ y365) 64).bind fun bt371 => ((reed_Generator.f k 64).bind fun bt373 => (if bt340.2 = 0 then (if bt342.2 = 1 then (if bt344.2 = 1 then (if bt346.2 = 0 then (if bt350.2 = 1 then (if bt354.2 = 0 then (if bt371.2 = 1 then (if bt373.2 = 0 then (if (bt340.1.size : Int) = 255 then (if (bt346.1.length : Int) = 172 then (if bt354.1.toList = ((strOfNums y337).extract 0 32768).toList then (if (bt373.1.length : Int) = 65 then (if 64 < (bt373.1.length : Int) then (if (rd bt373.1 64) = 1 then ((reed_Check.f 255 64).bind fun t378 => (if t378 = 0 then ((reed_Check.f 256 64).bind fun t379 => (if t379 = 1 then ((reed_Check.f 65 64).bind fun t380 => (if t380 = 0 then ((reed_Check.f 64 64).bind fun t381 => (if t381 = 1 then ((reed_Check.f 9 3).bind fun t382 => (some (t382 == 1))) else (some false))) else (some false))) else (some false))) else (some false))) else (some false)) else (none)) else (some false)) else (some false)) else (some false)) else (some false)) else (some false)) else (some false)) else (some false)) else (some false)) else (some false)) else (some false)) else (some false)) else (some false)))) else (none))) else (none))) else (none)))))) else (none)) else (none))) else (none)) else (none))) else (none)) else (none))) else (none)) else (none))) else (none)) else (some false)) = some r := H
 have A1 := Aside0.mk A10
 clear A10
 by_cases c2 : t336 = true
 ·subst c2
  have H1 : (if 32769 ≤ 281474976710656 then ((some (List.replicate 32769 0 : List Int)).bind fun y337 => (if 0 ≤ 191 then (if 191 ≤ ((strOfNums y337).size : Int) then ((reed_Encode.f k ((strOfNums y337).extract 0 191) 64).bind fun bt340 => (if 0 ≤ 192 then (if 192 ≤ ((strOfNums y337).size : Int) then ((reed_Encode.f k ((strOfNums y337).extract 0 192) 64).bind fun bt342 => (if 0 ≤ 9 then (if 9 ≤ ((strOfNums y337).size : Int) then ((reed_Encode.f k ((strOfNums y337).extract 0 9) 66).bind fun bt344 => (if 0 ≤ 32768 then (if 32768 ≤ ((strOfNums y337).size : Int) then ((reed_Words.f k ((strOfNums y337).extract 0 32768) 255 64).bind fun bt346 => ((reed_Words.f k (strOfNums y337) 255 64).bind fun bt350 => ((reed_Message.f k bt346.1 64).bind fun bt354 => ((some (([] : List ByteArray) : List ByteArray)).bind fun y356 => (if y356.length + bt346.1.length < 8796093022208 then ((some (y356 ++ bt346.1 : List ByteArray)).bind fun y359 => (if 65 ≤ 281474976710656 then ((some (([strOfNums (List.replicate 65 0)] : List ByteArray) : List ByteArray)).bind fun y365 => (if y359.length + y365.length < 8796093022208 then ((reed_Message.f k (y359 ++ y365) 64).bind fun bt371 => ((reed_Generator.f k 64).bind fun bt373 => (if bt340.2 = 0 then (if bt342.2 = 1 then (if bt344.2 = 1 then (if bt346.2 = 0 then (if bt350.2 = 1 then (if bt354.2 = 0 then (if bt371.2 = 1 then (if bt373.2 = 0 then (if (bt340.1.size : Int) = 255 then (if (bt346.1.length : Int) = 172 then (if bt354.1.toList = ((strOfNums y337).extract 0 32768).toList then (if (bt373.1.length : Int) = 65 then (if 64 < (bt373.1.length : Int) then (if (rd bt373.1 64) = 1 then ((reed_Check.f 255 64).bind fun t378 => (if t378 = 0 then ((reed_Check.f 256 64).bind fun t379 => (if t379 = 1 then ((reed_Check.f 65 64).bind fun t380 => (if t380 = 0 then ((reed_Check.f 64 64).bind fun t381 => (if t381 = 1 then ((reed_Check.f 9 3).bind fun t382 => (some (t382 == 1))) else (some false))) else (some false))) else (some false))) else (some false))) else (some false)) else (none)) else (some false)) else (some false)) else (some false)) else (some false)) else (some false)) else (some false)) else (some false)) else (some false)) else (some false)) else (some false)) else (some false)) else (some false)))) else (none))) else (none))) else (none)))))) else (none)) else (none))) else (none)) else (none))) else (none)) else (none))) else (none)) else (none))) else (none)) = some r := by rw [if_pos rfl] at H; exact H
  clear H
  have H := H1
  clear H1
  by_cases c3 : 32769 ≤ 281474976710656
  ·rw [if_pos c3] at H
   have c3b0 := eq_true c3
   have c3b1 : decide (32769 ≤ 281474976710656) = true := decide_eq_true c3
   clear c3
   obtain ⟨y337, hy337⟩ : ∃ y_ : List Int, y_ = (List.replicate 32769 0) := ⟨_, rfl⟩
   replace H : (if 0 ≤ 191 then (if 191 ≤ ((strOfNums y337).size : Int) then ((reed_Encode.f k ((strOfNums y337).extract 0 191) 64).bind fun bt340 => (if 0 ≤ 192 then (if 192 ≤ ((strOfNums y337).size : Int) then ((reed_Encode.f k ((strOfNums y337).extract 0 192) 64).bind fun bt342 => (if 0 ≤ 9 then (if 9 ≤ ((strOfNums y337).size : Int) then ((reed_Encode.f k ((strOfNums y337).extract 0 9) 66).bind fun bt344 => (if 0 ≤ 32768 then (if 32768 ≤ ((strOfNums y337).size : Int) then ((reed_Words.f k ((strOfNums y337).extract 0 32768) 255 64).bind fun bt346 => ((reed_Words.f k (strOfNums y337) 255 64).bind fun bt350 => ((reed_Message.f k bt346.1 64).bind fun bt354 => ((some (([] : List ByteArray) : List ByteArray)).bind fun y356 => (if y356.length + bt346.1.length < 8796093022208 then ((some (y356 ++ bt346.1 : List ByteArray)).bind fun y359 => (if 65 ≤ 281474976710656 then ((some (([strOfNums (List.replicate 65 0)] : List ByteArray) : List ByteArray)).bind fun y365 => (if y359.length + y365.length < 8796093022208 then ((reed_Message.f k (y359 ++ y365) 64).bind fun bt371 => ((reed_Generator.f k 64).bind fun bt373 => (if bt340.2 = 0 then (if bt342.2 = 1 then (if bt344.2 = 1 then (if bt346.2 = 0 then (if bt350.2 = 1 then (if bt354.2 = 0 then (if bt371.2 = 1 then (if bt373.2 = 0 then (if (bt340.1.size : Int) = 255 then (if (bt346.1.length : Int) = 172 then (if bt354.1.toList = ((strOfNums y337).extract 0 32768).toList then (if (bt373.1.length : Int) = 65 then (if 64 < (bt373.1.length : Int) then (if (rd bt373.1 64) = 1 then ((reed_Check.f 255 64).bind fun t378 => (if t378 = 0 then ((reed_Check.f 256 64).bind fun t379 => (if t379 = 1 then ((reed_Check.f 65 64).bind fun t380 => (if t380 = 0 then ((reed_Check.f 64 64).bind fun t381 => (if t381 = 1 then ((reed_Check.f 9 3).bind fun t382 => (some (t382 == 1))) else (some false))) else (some false))) else (some false))) else (some false))) else (some false)) else (none)) else (some false)) else (some false)) else (some false)) else (some false)) else (some false)) else (some false)) else (some false)) else (some false)) else (some false)) else (some false)) else (some false)) else (some false)))) else (none))) else (none))) else (none)))))) else (none)) else (none))) else (none)) else (none))) else (none)) else (none))) else (none)) else (none)) = some r := by first | (rw [hy337]; with_reducible exact H) | (have H2_ := (Option.bind_some _ _).symm.trans H; rw [hy337]; with_reducible exact H2_) | (have H2_ := (Option.bind_some _ _).symm.trans H; with_reducible exact H2_) | with_reducible exact H | (rw [hy337]; exact H) | exact H
   have Ny337 := Aside0.mk hy337
   clear hy337
   by_cases c4 : 0 ≤ 191
   ·rw [if_pos c4] at H
    have c4b0 := eq_true c4
    have c4b1 : decide (0 ≤ 191) = true := decide_eq_true c4
    clear c4
    by_cases c5 : 191 ≤ ((strOfNums y337).size : Int)
    ·rw [if_pos c5] at H
     have c5b0 := eq_true c5
     have c5b1 : decide (191 ≤ ((strOfNums y337).size : Int)) = true := decide_eq_true c5
     clear c5
     replace H := Option.bind_eq_some_iff.mp H
     obtain ⟨⟨t340, t341⟩, A60, H⟩ := H
     replace H : (if 0 ≤ 192 then (if 192 ≤ ((strOfNums y337).size : Int) then ((reed_Encode.f k ((strOfNums y337).extract 0 192) 64).bind fun bt342 => (if 0 ≤ 9 then (if 9 ≤ ((strOfNums y337).size : Int) then ((reed_Encode.f k ((strOfNums y337).extract 0 9) 66).bind fun bt344 => (if 0 ≤ 32768 then (if 32768 ≤ ((strOfNums y337).size : Int) then ((reed_Words.f k ((strOfNums y337).extract 0 32768) 255 64).bind fun bt346 => ((reed_Words.f k (strOfNums y337) 255 64).bind fun bt350 => ((reed_Message.f k bt346.1 64).bind fun bt354 => ((some (([] : List ByteArray) : List ByteArray)).bind fun y356 => (if y356.length + bt346.1.length < 8796093022208 then ((some (y356 ++ bt346.1 : List ByteArray)).bind fun y359 => (if 65 ≤ 281474976710656 then ((some (([strOfNums (List.replicate 65 0)] : List ByteArray) : List ByteArray)).bind fun y365 => (if y359.length + y365.length < 8796093022208 then ((reed_Message.f k (y359 ++ y365) 64).bind fun bt371 => ((reed_Generator.f k 64).bind fun bt373 => (if t341 = 0 then (if bt342.2 = 1 then (if bt344.2 = 1 then (if bt346.2 = 0 then (if bt350.2 = 1 then (if bt354.2 = 0 then (if bt371.2 = 1 then (if bt373.2 = 0 then (if (t340.size : Int) = 255 then (if (bt346.1.length : Int) = 172 then (if bt354.1.toList = ((strOfNums y337).extract 0 32768).toList then (if (bt373.1.length : Int) = 65 then (if 64 < (bt373.1.length : Int) then (if (rd bt373.1 64) = 1 then ((reed_Check.f 255 64).bind fun t378 => (if t378 = 0 then ((reed_Check.f 256 64).bind fun t379 => (if t379 = 1 then ((reed_Check.f 65 64).bind fun t380 => (if t380 = 0 then ((reed_Check.f 64 64).bind fun t381 => (if t381 = 1 then ((reed_Check.f 9 3).bind fun t382 => (some (t382 == 1))) else (some false))) else (some false))) else (some false))) else (some false))) else (some false)) else (none)) else (some false)) else (some false)) else (some false)) else (some false)) else (some false)) else (some false)) else (some false)) else (some false)) else (some false)) else (some false)) else (some false)) else (some false)))) else (none))) else (none))) else (none)))))) else (none)) else (none))) else (none)) else (none))) else (none)) else (none)) = some r := H
     have A6 := Aside0.mk A60
     clear A60
     by_cases c7 : 0 ≤ 192
     ·rw [if_pos c7] at H
      have c7b0 := eq_true c7
      have c7b1 : decide (0 ≤ 192) = true := decide_eq_true c7
      clear c7
      by_cases c8 : 192 ≤ ((strOfNums y337).size : Int)
      ·rw [if_pos c8] at H
       have c8b0 := eq_true c8
       have c8b1 : decide (192 ≤ ((strOfNums y337).size : Int)) = true := decide_eq_true c8
       clear c8
       replace H := Option.bind_eq_some_iff.mp H
       obtain ⟨⟨t342, t343⟩, A90, H⟩ := H
       replace H : (if 0 ≤ 9 then (if 9 ≤ ((strOfNums y337).size : Int) then ((reed_Encode.f k ((strOfNums y337).extract 0 9) 66).bind fun bt344 => (if 0 ≤ 32768 then (if 32768 ≤ ((strOfNums y337).size : Int) then ((reed_Words.f k ((strOfNums y337).extract 0 32768) 255 64).bind fun bt346 => ((reed_Words.f k (strOfNums y337) 255 64).bind fun bt350 => ((reed_Message.f k bt346.1 64).bind fun bt354 => ((some (([] : List ByteArray) : List ByteArray)).bind fun y356 => (if y356.length + bt346.1.length < 8796093022208 then ((some (y356 ++ bt346.1 : List ByteArray)).bind fun y359 => (if 65 ≤ 281474976710656 then ((some (([strOfNums (List.replicate 65 0)] : List ByteArray) : List ByteArray)).bind fun y365 => (if y359.length + y365.length < 8796093022208 then ((reed_Message.f k (y359 ++ y365) 64).bind fun bt371 => ((reed_Generator.f k 64).bind fun bt373 => (if t341 = 0 then (if t343 = 1 then (if bt344.2 = 1 then (if bt346.2 = 0 then (if bt350.2 = 1 then (if bt354.2 = 0 then (if bt371.2 = 1 then (if bt373.2 = 0 then (if (t340.size : Int) = 255 then (if (bt346.1.length : Int) = 172 then (if bt354.1.toList = ((strOfNums y337).extract 0 32768).toList then (if (bt373.1.length : Int) = 65 then (if 64 < (bt373.1.length : Int) then (if (rd bt373.1 64) = 1 then ((reed_Check.f 255 64).bind fun t378 => (if t378 = 0 then ((reed_Check.f 256 64).bind fun t379 => (if t379 = 1 then ((reed_Check.f 65 64).bind fun t380 => (if t380 = 0 then ((reed_Check.f 64 64).bind fun t381 => (if t381 = 1 then ((reed_Check.f 9 3).bind fun t382 => (some (t382 == 1))) else (some false))) else (some false))) else (some false))) else (some false))) else (some false)) else (none)) else (some false)) else (some false)) else (some false)) else (some false)) else (some false)) else (some false)) else (some false)) else (some false)) else (some false)) else (some false)) else (some false)) else (some false)))) else (none))) else (none))) else (none)))))) else (none)) else (none))) else (none)) else (none)) = some r := H
       have A9 := Aside0.mk A90
       clear A90
       by_cases c10 : 0 ≤ 9
       ·rw [if_pos c10] at H
        have c10b0 := eq_true c10
        have c10b1 : decide (0 ≤ 9) = true := decide_eq_true c10
        clear c10
        by_cases c11 : 9 ≤ ((strOfNums y337).size : Int)
        ·rw [if_pos c11] at H
         have c11b0 := eq_true c11
         have c11b1 : decide (9 ≤ ((strOfNums y337).size : Int)) = true := decide_eq_true c11
         clear c11
         replace H := Option.bind_eq_some_iff.mp H
         obtain ⟨⟨t344, t345⟩, A120, H⟩ := H
         replace H : (if 0 ≤ 32768 then (if 32768 ≤ ((strOfNums y337).size : Int) then ((reed_Words.f k ((strOfNums y337).extract 0 32768) 255 64).bind fun bt346 => ((reed_Words.f k (strOfNums y337) 255 64).bind fun bt350 => ((reed_Message.f k bt346.1 64).bind fun bt354 => ((some (([] : List ByteArray) : List ByteArray)).bind fun y356 => (if y356.length + bt346.1.length < 8796093022208 then ((some (y356 ++ bt346.1 : List ByteArray)).bind fun y359 => (if 65 ≤ 281474976710656 then ((some (([strOfNums (List.replicate 65 0)] : List ByteArray) : List ByteArray)).bind fun y365 => (if y359.length + y365.length < 8796093022208 then ((reed_Message.f k (y359 ++ y365) 64).bind fun bt371 => ((reed_Generator.f k 64).bind fun bt373 => (if t341 = 0 then (if t343 = 1 then (if t345 = 1 then (if bt346.2 = 0 then (if bt350.2 = 1 then (if bt354.2 = 0 then (if bt371.2 = 1 then (if bt373.2 = 0 then (if (t340.size : Int) = 255 then (if (bt346.1.length : Int) = 172 then (if bt354.1.toList = ((strOfNums y337).extract 0 32768).toList then (if (bt373.1.length : Int) = 65 then (if 64 < (bt373.1.length : Int) then (if (rd bt373.1 64) = 1 then ((reed_Check.f 255 64).bind fun t378 => (if t378 = 0 then ((reed_Check.f 256 64).bind fun t379 => (if t379 = 1 then ((reed_Check.f 65 64).bind fun t380 => (if t380 = 0 then ((reed_Check.f 64 64).bind fun t381 => (if t381 = 1 then ((reed_Check.f 9 3).bind fun t382 => (some (t382 == 1))) else (some false))) else (some false))) else (some false))) else (some false))) else (some false)) else (none)) else (some false)) else (some false)) else (some false)) else (some false)) else (some false)) else (some false)) else (some false)) else (some false)) else (some false)) else (some false)) else (some false)) else (some false)))) else (none))) else (none))) else (none)))))) else (none)) else (none)) = some r := H
         have A12 := Aside0.mk A120
         clear A120
         by_cases c13 : 0 ≤ 32768
         ·rw [if_pos c13] at H
          have c13b0 := eq_true c13
          have c13b1 : decide (0 ≤ 32768) = true := decide_eq_true c13
          clear c13
          by_cases c14 : 32768 ≤ ((strOfNums y337).size : Int)
          ·rw [if_pos c14] at H
           have c14b0 := eq_true c14
           have c14b1 : decide (32768 ≤ ((strOfNums y337).size : Int)) = true := decide_eq_true c14
           clear c14
           replace H := Option.bind_eq_some_iff.mp H
           obtain ⟨⟨t346, t347⟩, A150, H⟩ := H
           replace H : ((reed_Words.f k (strOfNums y337) 255 64).bind fun bt350 => ((reed_Message.f k t346 64).bind fun bt354 => ((some (([] : List ByteArray) : List ByteArray)).bind fun y356 => (if y356.length + t346.length < 8796093022208 then ((some (y356 ++ t346 : List ByteArray)).bind fun y359 => (if 65 ≤ 281474976710656 then ((some (([strOfNums (List.replicate 65 0)] : List ByteArray) : List ByteArray)).bind fun y365 => (if y359.length + y365.length < 8796093022208 then ((reed_Message.f k (y359 ++ y365) 64).bind fun bt371 => ((reed_Generator.f k 64).bind fun bt373 => (if t341 = 0 then (if t343 = 1 then (if t345 = 1 then (if t347 = 0 then (if bt350.2 = 1 then (if bt354.2 = 0 then (if bt371.2 = 1 then (if bt373.2 = 0 then (if (t340.size : Int) = 255 then (if (t346.length : Int) = 172 then (if bt354.1.toList = ((strOfNums y337).extract 0 32768).toList then (if (bt373.1.length : Int) = 65 then (if 64 < (bt373.1.length : Int) then (if (rd bt373.1 64) = 1 then ((reed_Check.f 255 64).bind fun t378 => (if t378 = 0 then ((reed_Check.f 256 64).bind fun t379 => (if t379 = 1 then ((reed_Check.f 65 64).bind fun t380 => (if t380 = 0 then ((reed_Check.f 64 64).bind fun t381 => (if t381 = 1 then ((reed_Check.f 9 3).bind fun t382 => (some (t382 == 1))) else (some false))) else (some false))) else (some false))) else (some false))) else (some false)) else (none)) else (some false)) else (some false)) else (some false)) else (some false)) else (some false)) else (some false)) else (some false)) else (some false)) else (some false)) else (some false)) else (some false)) else (some false)))) else (none))) else (none))) else (none))))) = some r := H
           have A15 := Aside0.mk A150
           clear A150
           replace H := Option.bind_eq_some_iff.mp H
           obtain ⟨⟨t350, t351⟩, A160, H⟩ := H
           replace H : ((reed_Message.f k t346 64).bind fun bt354 => ((some (([] : List ByteArray) : List ByteArray)).bind fun y356 => (if y356.length + t346.length < 8796093022208 then ((some (y356 ++ t346 : List ByteArray)).bind fun y359 => (if 65 ≤ 281474976710656 then ((some (([strOfNums (List.replicate 65 0)] : List ByteArray) : List ByteArray)).bind fun y365 => (if y359.length + y365.length < 8796093022208 then ((reed_Message.f k (y359 ++ y365) 64).bind fun bt371 => ((reed_Generator.f k 64).bind fun bt373 => (if t341 = 0 then (if t343 = 1 then (if t345 = 1 then (if t347 = 0 then (if t351 = 1 then (if bt354.2 = 0 then (if bt371.2 = 1 then (if bt373.2 = 0 then (if (t340.size : Int) = 255 then (if (t346.length : Int) = 172 then (if bt354.1.toList = ((strOfNums y337).extract 0 32768).toList then (if (bt373.1.length : Int) = 65 then (if 64 < (bt373.1.length : Int) then (if (rd bt373.1 64) = 1 then ((reed_Check.f 255 64).bind fun t378 => (if t378 = 0 then ((reed_Check.f 256 64).bind fun t379 => (if t379 = 1 then ((reed_Check.f 65 64).bind fun t380 => (if t380 = 0 then ((reed_Check.f 64 64).bind fun t381 => (if t381 = 1 then ((reed_Check.f 9 3).bind fun t382 => (some (t382 == 1))) else (some false))) else (some false))) else (some false))) else (some false))) else (some false)) else (none)) else (some false)) else (some false)) else (some false)) else (some false)) else (some false)) else (some false)) else (some false)) else (some false)) else (some false)) else (some false)) else (some false)) else (some false)))) else (none))) else (none))) else (none)))) = some r := H
           have A16 := Aside0.mk A160
           clear A160
           replace H := Option.bind_eq_some_iff.mp H
           obtain ⟨⟨t354, t355⟩, A170, H⟩ := H
           replace H : ((some (([] : List ByteArray) : List ByteArray)).bind fun y356 => (if y356.length + t346.length < 8796093022208 then ((some (y356 ++ t346 : List ByteArray)).bind fun y359 => (if 65 ≤ 281474976710656 then ((some (([strOfNums (List.replicate 65 0)] : List ByteArray) : List ByteArray)).bind fun y365 => (if y359.length + y365.length < 8796093022208 then ((reed_Message.f k (y359 ++ y365) 64).bind fun bt371 => ((reed_Generator.f k 64).bind fun bt373 => (if t341 = 0 then (if t343 = 1 then (if t345 = 1 then (if t347 = 0 then (if t351 = 1 then (if t355 = 0 then (if bt371.2 = 1 then (if bt373.2 = 0 then (if (t340.size : Int) = 255 then (if (t346.length : Int) = 172 then (if t354.toList = ((strOfNums y337).extract 0 32768).toList then (if (bt373.1.length : Int) = 65 then (if 64 < (bt373.1.length : Int) then (if (rd bt373.1 64) = 1 then ((reed_Check.f 255 64).bind fun t378 => (if t378 = 0 then ((reed_Check.f 256 64).bind fun t379 => (if t379 = 1 then ((reed_Check.f 65 64).bind fun t380 => (if t380 = 0 then ((reed_Check.f 64 64).bind fun t381 => (if t381 = 1 then ((reed_Check.f 9 3).bind fun t382 => (some (t382 == 1))) else (some false))) else (some false))) else (some false))) else (some false))) else (some false)) else (none)) else (some false)) else (some false)) else (some false)) else (some false)) else (some false)) else (some false)) else (some false)) else (some false)) else (some false)) else (some false)) else (some false)) else (some false)))) else (none))) else (none))) else (none))) = some r := H
           have A17 := Aside0.mk A170
           clear A170
           obtain ⟨y356, hy356⟩ : ∃ y_ : List ByteArray, y_ = (([] : List ByteArray)) := ⟨_, rfl⟩
           replace H : (if y356.length + t346.length < 8796093022208 then ((some (y356 ++ t346 : List ByteArray)).bind fun y359 => (if 65 ≤ 281474976710656 then ((some (([strOfNums (List.replicate 65 0)] : List ByteArray) : List ByteArray)).bind fun y365 => (if y359.length + y365.length < 8796093022208 then ((reed_Message.f k (y359 ++ y365) 64).bind fun bt371 => ((reed_Generator.f k 64).bind fun bt373 => (if t341 = 0 then (if t343 = 1 then (if t345 = 1 then (if t347 = 0 then (if t351 = 1 then (if t355 = 0 then (if bt371.2 = 1 then (if bt373.2 = 0 then (if (t340.size : Int) = 255 then (if (t346.length : Int) = 172 then (if t354.toList = ((strOfNums y337).extract 0 32768).toList then (if (bt373.1.length : Int) = 65 then (if 64 < (bt373.1.length : Int) then (if (rd bt373.1 64) = 1 then ((reed_Check.f 255 64).bind fun t378 => (if t378 = 0 then ((reed_Check.f 256 64).bind fun t379 => (if t379 = 1 then ((reed_Check.f 65 64).bind fun t380 => (if t380 = 0 then ((reed_Check.f 64 64).bind fun t381 => (if t381 = 1 then ((reed_Check.f 9 3).bind fun t382 => (some (t382 == 1))) else (some false))) else (some false))) else (some false))) else (some false))) else (some false)) else (none)) else (some false)) else (some false)) else (some false)) else (some false)) else (some false)) else (some false)) else (some false)) else (some false)) else (some false)) else (some false)) else (some false)) else (some false)))) else (none))) else (none))) else (none)) = some r := by first | (rw [hy356]; with_reducible exact H) | (have H2_ := (Option.bind_some _ _).symm.trans H; rw [hy356]; with_reducible exact H2_) | (have H2_ := (Option.bind_some _ _).symm.trans H; with_reducible exact H2_) | with_reducible exact H | (rw [hy356]; exact H) | exact H
           have Ny356 := Aside0.mk hy356
           clear hy356
           by_cases c18 : y356.length + t346.length < 8796093022208
           ·rw [if_pos c18] at H
            have LMc18 := Aside0.mk c18
            clear c18
            obtain ⟨y359, hy359⟩ : ∃ y_ : List ByteArray, y_ = (y356 ++ t346) := ⟨_, rfl⟩
            replace H : (if 65 ≤ 281474976710656 then ((some (([strOfNums (List.replicate 65 0)] : List ByteArray) : List ByteArray)).bind fun y365 => (if y359.length + y365.length < 8796093022208 then ((reed_Message.f k (y359 ++ y365) 64).bind fun bt371 => ((reed_Generator.f k 64).bind fun bt373 => (if t341 = 0 then (if t343 = 1 then (if t345 = 1 then (if t347 = 0 then (if t351 = 1 then (if t355 = 0 then (if bt371.2 = 1 then (if bt373.2 = 0 then (if (t340.size : Int) = 255 then (if (t346.length : Int) = 172 then (if t354.toList = ((strOfNums y337).extract 0 32768).toList then (if (bt373.1.length : Int) = 65 then (if 64 < (bt373.1.length : Int) then (if (rd bt373.1 64) = 1 then ((reed_Check.f 255 64).bind fun t378 => (if t378 = 0 then ((reed_Check.f 256 64).bind fun t379 => (if t379 = 1 then ((reed_Check.f 65 64).bind fun t380 => (if t380 = 0 then ((reed_Check.f 64 64).bind fun t381 => (if t381 = 1 then ((reed_Check.f 9 3).bind fun t382 => (some (t382 == 1))) else (some false))) else (some false))) else (some false))) else (some false))) else (some false)) else (none)) else (some false)) else (some false)) else (some false)) else (some false)) else (some false)) else (some false)) else (some false)) else (some false)) else (some false)) else (some false)) else (some false)) else (some false)))) else (none))) else (none)) = some r := by first | (rw [hy359]; with_reducible exact H) | (have H2_ := (Option.bind_some _ _).symm.trans H; rw [hy359]; with_reducible exact H2_) | (have H2_ := (Option.bind_some _ _).symm.trans H; with_reducible exact H2_) | with_reducible exact H | (rw [hy359]; exact H) | exact H
            have Ny359 := Aside0.mk hy359
            clear hy359
            by_cases c19 : 65 ≤ 281474976710656
            ·rw [if_pos c19] at H
             have c19b0 := eq_true c19
             have c19b1 : decide (65 ≤ 281474976710656) = true := decide_eq_true c19
             clear c19
             obtain ⟨y362, hy362⟩ : ∃ y_ : List Int, y_ = (List.replicate 65 0) := ⟨_, rfl⟩
             replace H : ((some (([strOfNums y362] : List ByteArray) : List ByteArray)).bind fun y365 => (if y359.length + y365.length < 8796093022208 then ((reed_Message.f k (y359 ++ y365) 64).bind fun bt371 => ((reed_Generator.f k 64).bind fun bt373 => (if t341 = 0 then (if t343 = 1 then (if t345 = 1 then (if t347 = 0 then (if t351 = 1 then (if t355 = 0 then (if bt371.2 = 1 then (if bt373.2 = 0 then (if (t340.size : Int) = 255 then (if (t346.length : Int) = 172 then (if t354.toList = ((strOfNums y337).extract 0 32768).toList then (if (bt373.1.length : Int) = 65 then (if 64 < (bt373.1.length : Int) then (if (rd bt373.1 64) = 1 then ((reed_Check.f 255 64).bind fun t378 => (if t378 = 0 then ((reed_Check.f 256 64).bind fun t379 => (if t379 = 1 then ((reed_Check.f 65 64).bind fun t380 => (if t380 = 0 then ((reed_Check.f 64 64).bind fun t381 => (if t381 = 1 then ((reed_Check.f 9 3).bind fun t382 => (some (t382 == 1))) else (some false))) else (some false))) else (some false))) else (some false))) else (some false)) else (none)) else (some false)) else (some false)) else (some false)) else (some false)) else (some false)) else (some false)) else (some false)) else (some false)) else (some false)) else (some false)) else (some false)) else (some false)))) else (none))) = some r := by first | (rw [hy362]; with_reducible exact H) | (have H2_ := (Option.bind_some _ _).symm.trans H; rw [hy362]; with_reducible exact H2_) | (have H2_ := (Option.bind_some _ _).symm.trans H; with_reducible exact H2_) | with_reducible exact H | (rw [hy362]; exact H) | exact H
             have Ny362 := Aside0.mk hy362
             clear hy362
             obtain ⟨y365, hy365⟩ : ∃ y_ : List ByteArray, y_ = (([strOfNums y362] : List ByteArray)) := ⟨_, rfl⟩
             replace H : (if y359.length + y365.length < 8796093022208 then ((reed_Message.f k (y359 ++ y365) 64).bind fun bt371 => ((reed_Generator.f k 64).bind fun bt373 => (if t341 = 0 then (if t343 = 1 then (if t345 = 1 then (if t347 = 0 then (if t351 = 1 then (if t355 = 0 then (if bt371.2 = 1 then (if bt373.2 = 0 then (if (t340.size : Int) = 255 then (if (t346.length : Int) = 172 then (if t354.toList = ((strOfNums y337).extract 0 32768).toList then (if (bt373.1.length : Int) = 65 then (if 64 < (bt373.1.length : Int) then (if (rd bt373.1 64) = 1 then ((reed_Check.f 255 64).bind fun t378 => (if t378 = 0 then ((reed_Check.f 256 64).bind fun t379 => (if t379 = 1 then ((reed_Check.f 65 64).bind fun t380 => (if t380 = 0 then ((reed_Check.f 64 64).bind fun t381 => (if t381 = 1 then ((reed_Check.f 9 3).bind fun t382 => (some (t382 == 1))) else (some false))) else (some false))) else (some false))) else (some false))) else (some false)) else (none)) else (some false)) else (some false)) else (some false)) else (some false)) else (some false)) else (some false)) else (some false)) else (some false)) else (some false)) else (some false)) else (some false)) else (some false)))) else (none)) = some r := by first | (rw [hy365]; with_reducible exact H) | (have H2_ := (Option.bind_some _ _).symm.trans H; rw [hy365]; with_reducible exact H2_) | (have H2_ := (Option.bind_some _ _).symm.trans H; with_reducible exact H2_) | with_reducible exact H | (rw [hy365]; exact H) | exact H
             have Ny365 := Aside0.mk hy365
             clear hy365
             by_cases c20 : y359.length + y365.length < 8796093022208
             ·rw [if_pos c20] at H
              have LMc20 := Aside0.mk c20
              clear c20
              obtain ⟨y368, hy368⟩ : ∃ y_ : List ByteArray, y_ = (y359 ++ y365) := ⟨_, rfl⟩
              replace H : ((reed_Message.f k y368 64).bind fun bt371 => ((reed_Generator.f k 64).bind fun bt373 => (if t341 = 0 then (if t343 = 1 then (if t345 = 1 then (if t347 = 0 then (if t351 = 1 then (if t355 = 0 then (if bt371.2 = 1 then (if bt373.2 = 0 then (if (t340.size : Int) = 255 then (if (t346.length : Int) = 172 then (if t354.toList = ((strOfNums y337).extract 0 32768).toList then (if (bt373.1.length : Int) = 65 then (if 64 < (bt373.1.length : Int) then (if (rd bt373.1 64) = 1 then ((reed_Check.f 255 64).bind fun t378 => (if t378 = 0 then ((reed_Check.f 256 64).bind fun t379 => (if t379 = 1 then ((reed_Check.f 65 64).bind fun t380 => (if t380 = 0 then ((reed_Check.f 64 64).bind fun t381 => (if t381 = 1 then ((reed_Check.f 9 3).bind fun t382 => (some (t382 == 1))) else (some false))) else (some false))) else (some false))) else (some false))) else (some false)) else (none)) else (some false)) else (some false)) else (some false)) else (some false)) else (some false)) else (some false)) else (some false)) else (some false)) else (some false)) else (some false)) else (some false)) else (some false)))) = some r := by first | (rw [hy368]; with_reducible exact H) | (have H2_ := (Option.bind_some _ _).symm.trans H; rw [hy368]; with_reducible exact H2_) | (have H2_ := (Option.bind_some _ _).symm.trans H; with_reducible exact H2_) | with_reducible exact H | (rw [hy368]; exact H) | exact H
              have Ny368 := Aside0.mk hy368
              clear hy368
              replace H := Option.bind_eq_some_iff.mp H
              obtain ⟨⟨t371, t372⟩, A210, H⟩ := H
              replace H : ((reed_Generator.f k 64).bind fun bt373 => (if t341 = 0 then (if t343 = 1 then (if t345 = 1 then (if t347 = 0 then (if t351 = 1 then (if t355 = 0 then (if t372 = 1 then (if bt373.2 = 0 then (if (t340.size : Int) = 255 then (if (t346.length : Int) = 172 then (if t354.toList = ((strOfNums y337).extract 0 32768).toList then (if (bt373.1.length : Int) = 65 then (if 64 < (bt373.1.length : Int) then (if (rd bt373.1 64) = 1 then ((reed_Check.f 255 64).bind fun t378 => (if t378 = 0 then ((reed_Check.f 256 64).bind fun t379 => (if t379 = 1 then ((reed_Check.f 65 64).bind fun t380 => (if t380 = 0 then ((reed_Check.f 64 64).bind fun t381 => (if t381 = 1 then ((reed_Check.f 9 3).bind fun t382 => (some (t382 == 1))) else (some false))) else (some false))) else (some false))) else (some false))) else (some false)) else (none)) else (some false)) else (some false)) else (some false)) else (some false)) else (some false)) else (some false)) else (some false)) else (some false)) else (some false)) else (some false)) else (some false)) else (some false))) = some r := H
              have A21 := Aside0.mk A210
              clear A210
              replace H := Option.bind_eq_some_iff.mp H
              obtain ⟨⟨t373, t374⟩, A220, H⟩ := H
              replace H : (if t341 = 0 then (if t343 = 1 then (if t345 = 1 then (if t347 = 0 then (if t351 = 1 then (if t355 = 0 then (if t372 = 1 then (if t374 = 0 then (if (t340.size : Int) = 255 then (if (t346.length : Int) = 172 then (if t354.toList = ((strOfNums y337).extract 0 32768).toList then (if (t373.length : Int) = 65 then (if 64 < (t373.length : Int) then (if (rd t373 64) = 1 then ((reed_Check.f 255 64).bind fun t378 => (if t378 = 0 then ((reed_Check.f 256 64).bind fun t379 => (if t379 = 1 then ((reed_Check.f 65 64).bind fun t380 => (if t380 = 0 then ((reed_Check.f 64 64).bind fun t381 => (if t381 = 1 then ((reed_Check.f 9 3).bind fun t382 => (some (t382 == 1))) else (some false))) else (some false))) else (some false))) else (some false))) else (some false)) else (none)) else (some false)) else (some false)) else (some false)) else (some false)) else (some false)) else (some false)) else (some false)) else (some false)) else (some false)) else (some false)) else (some false)) else (some false)) = some r := H
              have A22 := Aside0.mk A220
              clear A220
              by_cases c23 : t341 = 0
              ·rw [if_pos c23] at H
               have c23b0 : (t341 == 0) = true := beq_iff_eq.mpr c23
               have c23b1 : (t341 != 0) = false := bne_eq_false_iff_eq.mpr c23
               clear c23
               by_cases c24 : t343 = 1
               ·rw [if_pos c24] at H
                have c24b0 : (t343 == 1) = true := beq_iff_eq.mpr c24
                have c24b1 : (t343 != 1) = false := bne_eq_false_iff_eq.mpr c24
                clear c24
                by_cases c25 : t345 = 1
                ·rw [if_pos c25] at H
                 have c25b0 : (t345 == 1) = true := beq_iff_eq.mpr c25
                 have c25b1 : (t345 != 1) = false := bne_eq_false_iff_eq.mpr c25
                 clear c25
                 by_cases c26 : t347 = 0
                 ·rw [if_pos c26] at H
                  have c26b0 : (t347 == 0) = true := beq_iff_eq.mpr c26
                  have c26b1 : (t347 != 0) = false := bne_eq_false_iff_eq.mpr c26
                  clear c26
                  by_cases c27 : t351 = 1
                  ·rw [if_pos c27] at H
                   have c27b0 : (t351 == 1) = true := beq_iff_eq.mpr c27
                   have c27b1 : (t351 != 1) = false := bne_eq_false_iff_eq.mpr c27
                   clear c27
                   by_cases c28 : t355 = 0
                   ·rw [if_pos c28] at H
                    have c28b0 : (t355 == 0) = true := beq_iff_eq.mpr c28
                    have c28b1 : (t355 != 0) = false := bne_eq_false_iff_eq.mpr c28
                    clear c28
                    by_cases c29 : t372 = 1
                    ·rw [if_pos c29] at H
                     have c29b0 : (t372 == 1) = true := beq_iff_eq.mpr c29
                     have c29b1 : (t372 != 1) = false := bne_eq_false_iff_eq.mpr c29
                     clear c29
                     by_cases c30 : t374 = 0
                     ·rw [if_pos c30] at H
                      have c30b0 : (t374 == 0) = true := beq_iff_eq.mpr c30
                      have c30b1 : (t374 != 0) = false := bne_eq_false_iff_eq.mpr c30
                      clear c30
                      by_cases c31 : (t340.size : Int) = 255
                      ·rw [if_pos c31] at H
                       have c31b0 : ((t340.size : Int) == 255) = true := beq_iff_eq.mpr c31
                       have c31b1 : ((t340.size : Int) != 255) = false := bne_eq_false_iff_eq.mpr c31
                       clear c31
                       by_cases c32 : (t346.length : Int) = 172
                       ·rw [if_pos c32] at H
                        have c32b0 : ((t346.length : Int) == 172) = true := beq_iff_eq.mpr c32
                        have c32b1 : ((t346.length : Int) != 172) = false := bne_eq_false_iff_eq.mpr c32
                        clear c32
                        have c33b0 := eq_true (of_decide_eq_true (by first | (with_reducible assumption) | assumption) : 0 ≤ 32768)
                        have c34b0 := eq_true (of_decide_eq_true (by first | (with_reducible assumption) | assumption) : 32768 ≤ ((strOfNums y337).size : Int))
                        by_cases c35 : t354.toList = ((strOfNums y337).extract 0 32768).toList
                        ·rw [if_pos c35] at H
                         have c35b0 : (t354.toList == ((strOfNums y337).extract 0 32768).toList) = true := beq_iff_eq.mpr c35
                         have c35b1 : (t354.toList != ((strOfNums y337).extract 0 32768).toList) = false := bne_eq_false_iff_eq.mpr c35
                         clear c35
                         by_cases c36 : (t373.length : Int) = 65
                         ·rw [if_pos c36] at H
                          have c36b0 : ((t373.length : Int) == 65) = true := beq_iff_eq.mpr c36
                          have c36b1 : ((t373.length : Int) != 65) = false := bne_eq_false_iff_eq.mpr c36
                          clear c36
                          by_cases c37 : 64 < (t373.length : Int)
                          ·rw [if_pos c37] at H
                           have c37b0 : decide (64 < (t373.length : Int)) = true := decide_eq_true c37
                           have c37b1 : decide (64 < t373.length) = true := decide_eq_true (by omega)
                           clear c37
                           by_cases c38 : (rd t373 64) = 1
                           ·rw [if_pos c38] at H
                            have c38b0 : ((rd t373 64) == 1) = true := beq_iff_eq.mpr c38
                            have c38b1 : ((rd t373 64) != 1) = false := bne_eq_false_iff_eq.mpr c38
                            clear c38
                            replace H := Option.bind_eq_some_iff.mp H
                            obtain ⟨t378, A390, H⟩ := H
                            replace H : (if t378 = 0 then ((reed_Check.f 256 64).bind fun t379 => (if t379 = 1 then ((reed_Check.f 65 64).bind fun t380 => (if t380 = 0 then ((reed_Check.f 64 64).bind fun t381 => (if t381 = 1 then ((reed_Check.f 9 3).bind fun t382 => (some (t382 == 1))) else (some false))) else (some false))) else (some false))) else (some false)) = some r := H
                            have A39 := Aside0.mk A390
                            clear A390
                            by_cases c40 : t378 = 0
                            ·rw [if_pos c40] at H
                             have c40b0 : (t378 == 0) = true := beq_iff_eq.mpr c40
                             have c40b1 : (t378 != 0) = false := bne_eq_false_iff_eq.mpr c40
                             clear c40
                             replace H := Option.bind_eq_some_iff.mp H
                             obtain ⟨t379, A410, H⟩ := H
                             replace H : (if t379 = 1 then ((reed_Check.f 65 64).bind fun t380 => (if t380 = 0 then ((reed_Check.f 64 64).bind fun t381 => (if t381 = 1 then ((reed_Check.f 9 3).bind fun t382 => (some (t382 == 1))) else (some false))) else (some false))) else (some false)) = some r := H
                             have A41 := Aside0.mk A410
                             clear A410
                             by_cases c42 : t379 = 1
                             ·rw [if_pos c42] at H
                              have c42b0 : (t379 == 1) = true := beq_iff_eq.mpr c42
                              have c42b1 : (t379 != 1) = false := bne_eq_false_iff_eq.mpr c42
                              clear c42
                              replace H := Option.bind_eq_some_iff.mp H
                              obtain ⟨t380, A430, H⟩ := H
                              replace H : (if t380 = 0 then ((reed_Check.f 64 64).bind fun t381 => (if t381 = 1 then ((reed_Check.f 9 3).bind fun t382 => (some (t382 == 1))) else (some false))) else (some false)) = some r := H
                              have A43 := Aside0.mk A430
                              clear A430
                              by_cases c44 : t380 = 0
                              ·rw [if_pos c44] at H
                               have c44b0 : (t380 == 0) = true := beq_iff_eq.mpr c44
                               have c44b1 : (t380 != 0) = false := bne_eq_false_iff_eq.mpr c44
                               clear c44
                               replace H := Option.bind_eq_some_iff.mp H
                               obtain ⟨t381, A450, H⟩ := H
                               replace H : (if t381 = 1 then ((reed_Check.f 9 3).bind fun t382 => (some (t382 == 1))) else (some false)) = some r := H
                               have A45 := Aside0.mk A450
                               clear A450
                               by_cases c46 : t381 = 1
                               ·rw [if_pos c46] at H
                                have c46b0 : (t381 == 1) = true := beq_iff_eq.mpr c46
                                have c46b1 : (t381 != 1) = false := bne_eq_false_iff_eq.mpr c46
                                clear c46
                                replace H := Option.bind_eq_some_iff.mp H
                                obtain ⟨t382, A470, H⟩ := H
                                replace H : (some (t382 == 1)) = some r := H
                                have A47 := Aside0.mk A470
                                clear A470
                                as_aux_lemma =>
                                 obtain rfl := Option.some.inj H
                                 go_enter Try.func7, Try.ntmps7
                                 try go_wp2_with (first | ((with_reducible refine gate_callee (f := 17) rfl ?_); refine goesL_ (some 18) rfl rfl Try.func17 (by kernel_rfl) rfl #[] rfl (by (try simp only [List.map_toArray, List.map_cons, List.map_nil]); first | done | rfl | (simp only [List.length_drop, List.length_take]; rfl)) ?_; (with_reducible refine (foghornlaw19_works.calls k  true _ A1.out).mono ?_); rintro e w48 ⟨rfl, hb⟩; refine ⟨_, rfl, ?_⟩; have n0_ := Aside0.mk (below_step (by repeat (first | (with_reducible first | exact HB.out | apply below_alloc | apply pw_below_drewN | apply below_drew1) | exact HB.out)) hb); clear HB; have HB := n0_; clear n0_; (try clear hb); (try clear hb2); (try clear hk); (try clear hi)) | ((with_reducible refine gate_dst (N := 30) rfl ?_); (try (refine gate_guard (by rfl) ?_; dsimp only)); refine Kd.R_make (Kd.int .u8) _ 5 rfl (N := 30) rfl 29 _ _ rfl 32769 rfl rfl Try.underlying29 (.int .u8 0) 1 info5 rfl (by decide) (by omega) 0 (ok := fun _ => True) (okp := fun _ => True) rfl (fun _ hk => hk) trivial (by omega) (by omega) (Below.refl _ _) (Nat.le_refl _) ?_; intro v338 w49 ho50 hb hg_ hnew_; clear hg_ hnew_; (first | rw [← Ny337.out] at ho50 | (simp only [Int.reduceToNat] at ho50; rw [← Ny337.out] at ho50)); have n0_ := Aside0.mk (Kd.R_lower ho50 (below_size (by repeat (first | (with_reducible first | exact HB.out | apply below_alloc | apply pw_below_drewN | apply below_drew1) | exact HB.out)))); have n1_ := Aside0.mk (below_step (by repeat (first | (with_reducible first | exact HB.out | apply below_alloc | apply pw_below_drewN | apply below_drew1) | exact HB.out)) hb); clear HB; have HO339 := n0_; have HB := n1_; clear n0_ n1_; clear hb ho50; have hcv51 := own_string (P := Try.prog) Try.underlying29 Try.underlying5 Try.underlying9 (Kd.own_of_R HO339.out)) | ((with_reducible refine gate_callee (f := 19) rfl ?_); refine goesL_ (some 35) rfl rfl Try.func19 (by kernel_rfl) rfl #[.string ((strOfNums y337).extract 0 191), .int .i64 64] rfl (by (try simp only [List.map_toArray, List.map_cons, List.map_nil]); first | done | rfl | (simp only [List.length_drop, List.length_take]; rfl)) ?_; (with_reducible refine (reed_Encode.calls k ((strOfNums y337).extract 0 191) 64 t340 t341 _ A6.out).mono ?_); rintro e w52 ⟨rfl, hb⟩; refine ⟨_, rfl, ?_⟩; have n0_ := Aside0.mk (Kd.R_below (by (with_reducible repeat (first | apply Kd.R_alloc | apply Kd.R_drewN | apply Kd.R_drew)); exact HO339.out) hb); have n1_ := Aside0.mk (below_step (by repeat (first | (with_reducible first | exact HB.out | apply below_alloc | apply pw_below_drewN | apply below_drew1) | exact HB.out)) hb); clear HO339; clear HB; have HO339 := n0_; have HB := n1_; clear n0_ n1_; (try clear hb); (try clear hb2); (try clear hk); (try clear hi)) | ((with_reducible refine gate_callee (f := 19) rfl ?_); refine goesL_ (some 41) rfl rfl Try.func19 (by kernel_rfl) rfl #[.string ((strOfNums y337).extract 0 192), .int .i64 64] rfl (by (try simp only [List.map_toArray, List.map_cons, List.map_nil]); first | done | rfl | (simp only [List.length_drop, List.length_take]; rfl)) ?_; (with_reducible refine (reed_Encode.calls k ((strOfNums y337).extract 0 192) 64 t342 t343 _ A9.out).mono ?_); rintro e w53 ⟨rfl, hb⟩; refine ⟨_, rfl, ?_⟩; have n0_ := Aside0.mk (Kd.R_below (by (with_reducible repeat (first | apply Kd.R_alloc | apply Kd.R_drewN | apply Kd.R_drew)); exact HO339.out) hb); have n1_ := Aside0.mk (below_step (by repeat (first | (with_reducible first | exact HB.out | apply below_alloc | apply pw_below_drewN | apply below_drew1) | exact HB.out)) hb); clear HO339; clear HB; have HO339 := n0_; have HB := n1_; clear n0_ n1_; (try clear hb); (try clear hb2); (try clear hk); (try clear hi)) | ((with_reducible refine gate_callee (f := 19) rfl ?_); refine goesL_ (some 47) rfl rfl Try.func19 (by kernel_rfl) rfl #[.string ((strOfNums y337).extract 0 9), .int .i64 66] rfl (by (try simp only [List.map_toArray, List.map_cons, List.map_nil]); first | done | rfl | (simp only [List.length_drop, List.length_take]; rfl)) ?_; (with_reducible refine (reed_Encode.calls k ((strOfNums y337).extract 0 9) 66 t344 t345 _ A12.out).mono ?_); rintro e w54 ⟨rfl, hb⟩; refine ⟨_, rfl, ?_⟩; have n0_ := Aside0.mk (Kd.R_below (by (with_reducible repeat (first | apply Kd.R_alloc | apply Kd.R_drewN | apply Kd.R_drew)); exact HO339.out) hb); have n1_ := Aside0.mk (below_step (by repeat (first | (with_reducible first | exact HB.out | apply below_alloc | apply pw_below_drewN | apply below_drew1) | exact HB.out)) hb); clear HO339; clear HB; have HO339 := n0_; have HB := n1_; clear n0_ n1_; (try clear hb); (try clear hb2); (try clear hk); (try clear hi)) | ((with_reducible refine gate_callee (f := 31) rfl ?_); refine goesL_ (some 53) rfl rfl Try.func31 (by kernel_rfl) rfl #[.string ((strOfNums y337).extract 0 32768), .int .i64 255, .int .i64 64] rfl (by (try simp only [List.map_toArray, List.map_cons, List.map_nil]); first | done | rfl | (simp only [List.length_drop, List.length_take]; rfl)) ?_; (with_reducible refine (reed_Words.calls k ((strOfNums y337).extract 0 32768) 255 64 t346 t347 _ A15.out).mono ?_); rintro e w55 ⟨v348, rfl, ho0, hb⟩; refine ⟨_, rfl, ?_⟩; have n0_ := Aside0.mk (Kd.R_below (by (with_reducible repeat (first | apply Kd.R_alloc | apply Kd.R_drewN | apply Kd.R_drew)); exact HO339.out) hb); have n1_ := Aside0.mk (Kd.R_lower ho0 (below_size (by repeat (first | (with_reducible first | exact HB.out | apply below_alloc | apply pw_below_drewN | apply below_drew1) | exact HB.out)))); have n2_ := Aside0.mk (below_step (by repeat (first | (with_reducible first | exact HB.out | apply below_alloc | apply pw_below_drewN | apply below_drew1) | exact HB.out)) hb); clear HO339; clear HB; have HO339 := n0_; have HO349 := n1_; have HB := n2_; clear n0_ n1_ n2_; (try clear hb); (try clear hb2); (try clear hk); (try clear hi); (try clear ho0)) | ((with_reducible refine gate_callee (f := 31) rfl ?_); refine goesL_ (some 58) rfl rfl Try.func31 (by kernel_rfl) rfl #[.string (strOfNums y337), .int .i64 255, .int .i64 64] rfl (by (try simp only [List.map_toArray, List.map_cons, List.map_nil]); first | done | rfl | (simp only [List.length_drop, List.length_take]; rfl)) ?_; (with_reducible refine (reed_Words.calls k (strOfNums y337) 255 64 t350 t351 _ A16.out).mono ?_); rintro e w56 ⟨v352, rfl, ho0, hb⟩; refine ⟨_, rfl, ?_⟩; have n0_ := Aside0.mk (Kd.R_below (by (with_reducible repeat (first | apply Kd.R_alloc | apply Kd.R_drewN | apply Kd.R_drew)); exact HO339.out) hb); have n1_ := Aside0.mk (Kd.R_elder' (by (with_reducible repeat (first | apply Kd.R_alloc | apply Kd.R_drewN | apply Kd.R_drew)); exact HO349.out) (Kd.R_base ho0) hb); have n2_ := Aside0.mk (Kd.R_lower (Kd.R_new' ho0 (Kd.R_lt (by (with_reducible repeat (first | apply Kd.R_alloc | apply Kd.R_drewN | apply Kd.R_drew)); exact HO349.out))) (below_size (by repeat (first | (with_reducible first | exact HB.out | apply below_alloc | apply pw_below_drewN | apply below_drew1) | exact HB.out)))); have n3_ := Aside0.mk (below_step (by repeat (first | (with_reducible first | exact HB.out | apply below_alloc | apply pw_below_drewN | apply below_drew1) | exact HB.out)) hb); clear HO339; clear HO349; clear HB; have HO339 := n0_; have HO349 := n1_; have HO353 := n2_; have HB := n3_; clear n0_ n1_ n2_ n3_; (try clear hb); (try clear hb2); (try clear hk); (try clear hi); (try clear ho0); obtain ⟨Ao57, co57, eo57⟩ := Kd.R_slice HO349.out; subst eo57) | ((with_reducible refine gate_callee (f := 32) rfl ?_); refine goesL_ (some 63) rfl rfl Try.func32 (by kernel_rfl) rfl #[.slice Ao57 t346.length co57, .int .i64 64] rfl (by (try simp only [List.map_toArray, List.map_cons, List.map_nil]); first | done | rfl | (simp only [List.length_drop, List.length_take]; rfl)) ?_; (with_reducible refine (reed_Message.calls k _ _ t346 64 t354 t355 _ ?side1 ?side2 A17.out).mono ?_); (case side1 => repeat (first | exact (Kd.R_reads' HO349.out).2.2 | (with_reducible refine Kd.C_alloc ?_ _) | (with_reducible refine Kd.C_drewN ?_ _) | (with_reducible refine Kd.C_drew ?_))); (case side2 => exact (Kd.R_reads' HO349.out).2.1); rintro e w58 ⟨rfl, hb⟩; refine ⟨_, rfl, ?_⟩; have n0_ := Aside0.mk (Kd.R_below (by (with_reducible repeat (first | apply Kd.R_alloc | apply Kd.R_drewN | apply Kd.R_drew)); exact HO339.out) hb); have n1_ := Aside0.mk (Kd.R_below (by (with_reducible repeat (first | apply Kd.R_alloc | apply Kd.R_drewN | apply Kd.R_drew)); exact HO349.out) hb); have n2_ := Aside0.mk (Kd.R_below (by (with_reducible repeat (first | apply Kd.R_alloc | apply Kd.R_drewN | apply Kd.R_drew)); exact HO353.out) hb); have n3_ := Aside0.mk (below_step (by repeat (first | (with_reducible first | exact HB.out | apply below_alloc | apply pw_below_drewN | apply below_drew1) | exact HB.out)) hb); clear HO339; clear HO349; clear HO353; clear HB; have HO339 := n0_; have HO349 := n1_; have HO353 := n2_; have HB := n3_; clear n0_ n1_ n2_ n3_; (try clear hb); (try clear hb2); (try clear hk); (try clear hi)))
                                 have n0_ := Aside0.mk (Kd.R_drew HO339.out)
                                 have n1_ := Aside0.mk (Kd.R_drew HO349.out)
                                 have n2_ := Aside0.mk (Kd.R_drew HO353.out)
                                 have n3_ := Aside0.mk (below_drew1 HB.out)
                                 clear HO339
                                 clear HO349
                                 clear HO353
                                 clear HB
                                 have HO339 := n0_
                                 have HO349 := n1_
                                 have HO353 := n2_
                                 have HB := n3_
                                 clear n0_ n1_ n2_ n3_
                                 refine start_ (n := 13) (S := fun w' => True) (ds := []) #[false, false, false, false, false, false, false, false, false, false, false, false, false] (by kernel_rfl) rfl rfl trivial (fun hHeld => ?_); refine with_tabW foghornlaw19_ReedNames.tab10 foghornlaw19_ReedNames.bits10 (fun HT_ HW_ => ?_)
                                 generalize w58.drew = w59 at HO339 HO349 HO353 HB hHeld ⊢
                                 refine pure_ (i := 1) (N := some 68) (v := ?_) (a' := ?_) #[false, true, false, false, false, false, false, false, false, false, false, false, false] rfl rfl (any_of HT_.out (by kernel_rfl)) (fun _ _ _ h => h) (Or.inl ⟨by rfl, ?_⟩) ?_ ?_
                                 rotate_left
                                 ·intro w'
                                  go_simp
                                  with_reducible rfl
                                 rotate_left
                                 ·simp only [Act.put, List.setIfInBounds_toArray, List.set_cons_zero, List.set_cons_succ, i64_w, i32_w]
                                  rfl
                                 refine join_ (σ := Value × Value × Value × Value) 7 #[true, true, true, true, true, true, false, false, false, false, false, false, false] (fun s_ => [(67, s_.1), (69, s_.2.1), (70, s_.2.2.1), (71, .string (strOfNums y362)), (72, s_.2.2.2)]) (fun s_ w' => (Kd.R (Kd.int .u8) 5 w' w.heap.size (fun k_ => some k_ ≠ (s_.2.2.1 : Value).ownBlock) v338 y337) ∧ (Kd.R Kd.string 9 w' w.heap.size (fun k_ => some k_ ≠ (v352 : Value).ownBlock ∧ some k_ ≠ (s_.2.1 : Value).ownBlock ∧ some k_ ≠ (s_.2.2.2 : Value).ownBlock) (.slice Ao57 t346.length co57) t346) ∧ (Kd.R Kd.string 9 w' w.heap.size (fun k_ => some k_ ≠ (.slice Ao57 t346.length co57 : Value).ownBlock ∧ some k_ ≠ (s_.2.1 : Value).ownBlock ∧ some k_ ≠ (s_.2.2.2 : Value).ownBlock) v352 t350) ∧ (Kd.R Kd.string 9 w' w.heap.size (fun k_ => some k_ ≠ (.slice Ao57 t346.length co57 : Value).ownBlock ∧ some k_ ≠ (v352 : Value).ownBlock ∧ some k_ ≠ (s_.2.2.2 : Value).ownBlock) s_.2.1 y359) ∧ (Kd.R (Kd.int .u8) 5 w' w.heap.size (fun k_ => some k_ ≠ (v338 : Value).ownBlock) s_.2.2.1 y362) ∧ (Kd.R Kd.string 9 w' w.heap.size (fun k_ => some k_ ≠ (.slice Ao57 t346.length co57 : Value).ownBlock ∧ some k_ ≠ (v352 : Value).ownBlock ∧ some k_ ≠ (s_.2.1 : Value).ownBlock) s_.2.2.2 y365) ∧ (Below w.heap.size w w')) ?_ ?_
                                 rotate_left
                                 ·intro hJ0_2_3_4_5
                                  refine join_ (σ := Value × Value × Value) 8 #[true, true, true, true, true, false, false, false, false, false, false, false, false] (fun s_ => [(67, s_.1), (69, s_.2.1), (70, s_.2.2), (71, .string (strOfNums y362))]) (fun s_ w' => (Kd.R (Kd.int .u8) 5 w' w.heap.size (fun k_ => some k_ ≠ (s_.2.2 : Value).ownBlock) v338 y337) ∧ (Kd.R Kd.string 9 w' w.heap.size (fun k_ => some k_ ≠ (v352 : Value).ownBlock ∧ some k_ ≠ (s_.2.1 : Value).ownBlock) (.slice Ao57 t346.length co57) t346) ∧ (Kd.R Kd.string 9 w' w.heap.size (fun k_ => some k_ ≠ (.slice Ao57 t346.length co57 : Value).ownBlock ∧ some k_ ≠ (s_.2.1 : Value).ownBlock) v352 t350) ∧ (Kd.R Kd.string 9 w' w.heap.size (fun k_ => some k_ ≠ (.slice Ao57 t346.length co57 : Value).ownBlock ∧ some k_ ≠ (v352 : Value).ownBlock) s_.2.1 y359) ∧ (Kd.R (Kd.int .u8) 5 w' w.heap.size (fun k_ => some k_ ≠ (v338 : Value).ownBlock) s_.2.2 y362) ∧ (Below w.heap.size w w')) ?_ ?_
                                  rotate_left
                                  ·intro hJ0_2_3_4
                                   refine join_ (σ := Value × Value × Value) 8 #[true, true, false, true, true, true, false, false, false, false, false, false, false] (fun s_ => [(67, s_.1), (70, s_.2.1), (71, .string (strOfNums y362)), (72, s_.2.2)]) (fun s_ w' => (Kd.R (Kd.int .u8) 5 w' w.heap.size (fun k_ => some k_ ≠ (s_.2.1 : Value).ownBlock) v338 y337) ∧ (Kd.R Kd.string 9 w' w.heap.size (fun k_ => some k_ ≠ (v352 : Value).ownBlock ∧ some k_ ≠ (s_.1 : Value).ownBlock ∧ some k_ ≠ (s_.2.2 : Value).ownBlock) (.slice Ao57 t346.length co57) t346) ∧ (Kd.R Kd.string 9 w' w.heap.size (fun k_ => some k_ ≠ (.slice Ao57 t346.length co57 : Value).ownBlock ∧ some k_ ≠ (s_.1 : Value).ownBlock ∧ some k_ ≠ (s_.2.2 : Value).ownBlock) v352 t350) ∧ (Kd.R Kd.string 9 w' w.heap.size (fun k_ => some k_ ≠ (.slice Ao57 t346.length co57 : Value).ownBlock ∧ some k_ ≠ (v352 : Value).ownBlock ∧ some k_ ≠ (s_.2.2 : Value).ownBlock) s_.1 y356) ∧ (Kd.R (Kd.int .u8) 5 w' w.heap.size (fun k_ => some k_ ≠ (v338 : Value).ownBlock) s_.2.1 y362) ∧ (Kd.R Kd.string 9 w' w.heap.size (fun k_ => some k_ ≠ (.slice Ao57 t346.length co57 : Value).ownBlock ∧ some k_ ≠ (v352 : Value).ownBlock ∧ some k_ ≠ (s_.1 : Value).ownBlock) s_.2.2 y365) ∧ (Below w.heap.size w w')) ?_ ?_
                                   rotate_left
                                   ·intro hJ0_3_4_5
                                    refine join_ (σ := Value × Value × Value) 9 #[true, true, true, true, false, false, false, false, false, false, false, false, false] (fun s_ => [(67, s_.1), (69, s_.2.1), (70, s_.2.2)]) (fun s_ w' => (Kd.R (Kd.int .u8) 5 w' w.heap.size (fun k_ => some k_ ≠ (s_.2.2 : Value).ownBlock) v338 y337) ∧ (Kd.R Kd.string 9 w' w.heap.size (fun k_ => some k_ ≠ (v352 : Value).ownBlock ∧ some k_ ≠ (s_.2.1 : Value).ownBlock) (.slice Ao57 t346.length co57) t346) ∧ (Kd.R Kd.string 9 w' w.heap.size (fun k_ => some k_ ≠ (.slice Ao57 t346.length co57 : Value).ownBlock ∧ some k_ ≠ (s_.2.1 : Value).ownBlock) v352 t350) ∧ (Kd.R Kd.string 9 w' w.heap.size (fun k_ => some k_ ≠ (.slice Ao57 t346.length co57 : Value).ownBlock ∧ some k_ ≠ (v352 : Value).ownBlock) s_.2.1 y359) ∧ (Kd.R (Kd.int .u8) 5 w' w.heap.size (fun k_ => some k_ ≠ (v338 : Value).ownBlock) s_.2.2 y362) ∧ (Below w.heap.size w w')) ?_ ?_
                                    rotate_left
                                    ·intro hJ0_2_3
                                     refine join_ (σ := Value × Value) 9 #[true, true, false, true, true, false, false, false, false, false, false, false, false] (fun s_ => [(67, s_.1), (70, s_.2), (71, .string (strOfNums y362))]) (fun s_ w' => (Kd.R (Kd.int .u8) 5 w' w.heap.size (fun k_ => some k_ ≠ (s_.2 : Value).ownBlock) v338 y337) ∧ (Kd.R Kd.string 9 w' w.heap.size (fun k_ => some k_ ≠ (v352 : Value).ownBlock ∧ some k_ ≠ (s_.1 : Value).ownBlock) (.slice Ao57 t346.length co57) t346) ∧ (Kd.R Kd.string 9 w' w.heap.size (fun k_ => some k_ ≠ (.slice Ao57 t346.length co57 : Value).ownBlock ∧ some k_ ≠ (s_.1 : Value).ownBlock) v352 t350) ∧ (Kd.R Kd.string 9 w' w.heap.size (fun k_ => some k_ ≠ (.slice Ao57 t346.length co57 : Value).ownBlock ∧ some k_ ≠ (v352 : Value).ownBlock) s_.1 y356) ∧ (Kd.R (Kd.int .u8) 5 w' w.heap.size (fun k_ => some k_ ≠ (v338 : Value).ownBlock) s_.2 y362) ∧ (Below w.heap.size w w')) ?_ ?_
                                     rotate_left
                                     ·intro hJ0_3_4
                                      refine join_ (σ := Value × Value) 9 #[false, true, false, true, true, true, false, false, false, false, false, false, false] (fun s_ => [(70, s_.1), (71, .string (strOfNums y362)), (72, s_.2)]) (fun s_ w' => (Kd.R (Kd.int .u8) 5 w' w.heap.size (fun k_ => some k_ ≠ (s_.1 : Value).ownBlock) v338 y337) ∧ (Kd.R Kd.string 9 w' w.heap.size (fun k_ => some k_ ≠ (v352 : Value).ownBlock ∧ some k_ ≠ (s_.2 : Value).ownBlock) (.slice Ao57 t346.length co57) t346) ∧ (Kd.R Kd.string 9 w' w.heap.size (fun k_ => some k_ ≠ (.slice Ao57 t346.length co57 : Value).ownBlock ∧ some k_ ≠ (s_.2 : Value).ownBlock) v352 t350) ∧ (Kd.R (Kd.int .u8) 5 w' w.heap.size (fun k_ => some k_ ≠ (v338 : Value).ownBlock) s_.1 y362) ∧ (Kd.R Kd.string 9 w' w.heap.size (fun k_ => some k_ ≠ (.slice Ao57 t346.length co57 : Value).ownBlock ∧ some k_ ≠ (v352 : Value).ownBlock) s_.2 y365) ∧ (Below w.heap.size w w')) ?_ ?_
                                      rotate_left
                                      ·intro hJ3_4_5
                                       refine join_ (σ := Value × Value) 10 #[true, true, true, false, false, false, false, false, false, false, false, false, false] (fun s_ => [(67, s_.1), (69, s_.2)]) (fun s_ w' => (Kd.R (Kd.int .u8) 5 w' w.heap.size (fun _ => True) v338 y337) ∧ (Kd.R Kd.string 9 w' w.heap.size (fun k_ => some k_ ≠ (v352 : Value).ownBlock ∧ some k_ ≠ (s_.2 : Value).ownBlock) (.slice Ao57 t346.length co57) t346) ∧ (Kd.R Kd.string 9 w' w.heap.size (fun k_ => some k_ ≠ (.slice Ao57 t346.length co57 : Value).ownBlock ∧ some k_ ≠ (s_.2 : Value).ownBlock) v352 t350) ∧ (Kd.R Kd.string 9 w' w.heap.size (fun k_ => some k_ ≠ (.slice Ao57 t346.length co57 : Value).ownBlock ∧ some k_ ≠ (v352 : Value).ownBlock) s_.2 y359) ∧ (Below w.heap.size w w')) ?_ ?_
                                       rotate_left
                                       ·intro hJ0_2
                                        refine join_ (σ := Value × Value) 10 #[true, true, false, true, false, false, false, false, false, false, false, false, false] (fun s_ => [(67, s_.1), (70, s_.2)]) (fun s_ w' => (Kd.R (Kd.int .u8) 5 w' w.heap.size (fun k_ => some k_ ≠ (s_.2 : Value).ownBlock) v338 y337) ∧ (Kd.R Kd.string 9 w' w.heap.size (fun k_ => some k_ ≠ (v352 : Value).ownBlock ∧ some k_ ≠ (s_.1 : Value).ownBlock) (.slice Ao57 t346.length co57) t346) ∧ (Kd.R Kd.string 9 w' w.heap.size (fun k_ => some k_ ≠ (.slice Ao57 t346.length co57 : Value).ownBlock ∧ some k_ ≠ (s_.1 : Value).ownBlock) v352 t350) ∧ (Kd.R Kd.string 9 w' w.heap.size (fun k_ => some k_ ≠ (.slice Ao57 t346.length co57 : Value).ownBlock ∧ some k_ ≠ (v352 : Value).ownBlock) s_.1 y356) ∧ (Kd.R (Kd.int .u8) 5 w' w.heap.size (fun k_ => some k_ ≠ (v338 : Value).ownBlock) s_.2 y362) ∧ (Below w.heap.size w w')) ?_ ?_
                                        rotate_left
                                        ·intro hJ0_3
                                         refine join_ (σ := Value) 10 #[false, true, false, true, true, false, false, false, false, false, false, false, false] (fun s_ => [(70, s_), (71, .string (strOfNums y362))]) (fun s_ w' => (Kd.R (Kd.int .u8) 5 w' w.heap.size (fun k_ => some k_ ≠ (s_ : Value).ownBlock) v338 y337) ∧ (Kd.R Kd.string 9 w' w.heap.size (fun k_ => some k_ ≠ (v352 : Value).ownBlock) (.slice Ao57 t346.length co57) t346) ∧ (Kd.R Kd.string 9 w' w.heap.size (fun k_ => some k_ ≠ (.slice Ao57 t346.length co57 : Value).ownBlock) v352 t350) ∧ (Kd.R (Kd.int .u8) 5 w' w.heap.size (fun k_ => some k_ ≠ (v338 : Value).ownBlock) s_ y362) ∧ (Below w.heap.size w w')) ?_ ?_
                                         rotate_left
                                         ·intro hJ3_4
                                          refine join_ (σ := Value) 11 #[true, true, false, false, false, false, false, false, false, false, false, false, false] (fun s_ => [(67, s_)]) (fun s_ w' => (Kd.R (Kd.int .u8) 5 w' w.heap.size (fun _ => True) v338 y337) ∧ (Kd.R Kd.string 9 w' w.heap.size (fun k_ => some k_ ≠ (v352 : Value).ownBlock ∧ some k_ ≠ (s_ : Value).ownBlock) (.slice Ao57 t346.length co57) t346) ∧ (Kd.R Kd.string 9 w' w.heap.size (fun k_ => some k_ ≠ (.slice Ao57 t346.length co57 : Value).ownBlock ∧ some k_ ≠ (s_ : Value).ownBlock) v352 t350) ∧ (Kd.R Kd.string 9 w' w.heap.size (fun k_ => some k_ ≠ (.slice Ao57 t346.length co57 : Value).ownBlock ∧ some k_ ≠ (v352 : Value).ownBlock) s_ y356) ∧ (Below w.heap.size w w')) ?_ ?_
                                          rotate_left
                                          ·intro hJ0
                                           refine join_ (σ := Value) 11 #[false, true, false, true, false, false, false, false, false, false, false, false, false] (fun s_ => [(70, s_)]) (fun s_ w' => (Kd.R (Kd.int .u8) 5 w' w.heap.size (fun k_ => some k_ ≠ (s_ : Value).ownBlock) v338 y337) ∧ (Kd.R Kd.string 9 w' w.heap.size (fun k_ => some k_ ≠ (v352 : Value).ownBlock) (.slice Ao57 t346.length co57) t346) ∧ (Kd.R Kd.string 9 w' w.heap.size (fun k_ => some k_ ≠ (.slice Ao57 t346.length co57 : Value).ownBlock) v352 t350) ∧ (Kd.R (Kd.int .u8) 5 w' w.heap.size (fun k_ => some k_ ≠ (v338 : Value).ownBlock) s_ y362) ∧ (Below w.heap.size w w')) ?_ ?_
                                           rotate_left
                                           ·intro hJ3
                                            refine two_ (i := 0) (j := 3) (Ni := some 67) (Nj := some 70) #[true, true, false, false, false, false, false, false, false, false, false, false, false] #[false, true, false, true, false, false, false, false, false, false, false, false, false] rfl rfl rfl rfl (two_of HT_.out (by kernel_rfl)) (by decide) (by decide) (fun K hK => ?_) (fun K hK => ?_)
                                            ·skip
                                             refine Kd.R_lit_step Kd.string _ 9 ?hg (N := 67) ?hd (xs := ([] : List ByteArray)) (inner := []) (ok := fun _ => True) (okp := fun _ => True) ?hr ?hp (fun _ hk => hk) trivial (Below.refl _ _) (Nat.le_refl _) (by simp) ?_; (case hd => rfl); (case hg => rfl); (case hr => first | (go_simp; done) | (go_simp; rfl)); (case hp => exact (Reps.none _ _))
                                             intro v357 w60 ho61 hb hg_ hnew_
                                             clear hg_ hnew_
                                             (first | rw [← Ny356.out] at ho61 | (simp only [Int.reduceToNat] at ho61; rw [← Ny356.out] at ho61))
                                             have n0_ := Aside0.mk (Kd.R_below (by (with_reducible repeat (first | apply Kd.R_alloc | apply Kd.R_drewN | apply Kd.R_drew)); exact HO339.out) hb)
                                             have n1_ := Aside0.mk (Kd.R_elder' (by (with_reducible repeat (first | apply Kd.R_alloc | apply Kd.R_drewN | apply Kd.R_drew)); exact HO349.out) (Kd.R_base ho61) hb)
                                             have n2_ := Aside0.mk (Kd.R_elder' (by (with_reducible repeat (first | apply Kd.R_alloc | apply Kd.R_drewN | apply Kd.R_drew)); exact HO353.out) (Kd.R_base ho61) hb)
                                             have n3_ := Aside0.mk (Kd.R_lower (Kd.R_new' (Kd.R_new' ho61 (Kd.R_lt (by (with_reducible repeat (first | apply Kd.R_alloc | apply Kd.R_drewN | apply Kd.R_drew)); exact HO349.out))) (Kd.R_lt (by (with_reducible repeat (first | apply Kd.R_alloc | apply Kd.R_drewN | apply Kd.R_drew)); exact HO353.out))) (below_size (by repeat (first | (with_reducible first | exact HB.out | apply below_alloc | apply pw_below_drewN | apply below_drew1) | exact HB.out))))
                                             have n4_ := Aside0.mk (below_step (by repeat (first | (with_reducible first | exact HB.out | apply below_alloc | apply pw_below_drewN | apply below_drew1) | exact HB.out)) hb)
                                             clear HO339
                                             clear HO349
                                             clear HO353
                                             clear HB
                                             have HO339 := n0_
                                             have HO349 := n1_
                                             have HO353 := n2_
                                             have HO358 := n3_
                                             have HB := n4_
                                             clear n0_ n1_ n2_ n3_ n4_
                                             clear hb ho61
                                             refine hK.out _ _ trivial (fun hHeld => ?_)
                                             clear hK K
                                             refine norm_ (a' := ?_) ?_ ?_
                                             rotate_left
                                             ·show Act.put _ (some 67) _ = _
                                              simp only [Act.put, List.setIfInBounds_toArray, List.set_cons_zero, List.set_cons_succ, i64_w, i32_w]
                                              rfl
                                             exact norm_ (by first | (simp only [putAll, Act.put, List.setIfInBounds_toArray, List.set_cons_zero, List.set_cons_succ]; done) | (simp only [putAll, Act.put, List.setIfInBounds_toArray, List.set_cons_zero, List.set_cons_succ]; rfl)) (hJ0 (v357) _ ⟨(by (with_reducible repeat (first | apply Kd.R_alloc | apply Kd.R_drewN | apply Kd.R_drew)); exact HO339.out), (by (with_reducible repeat (first | apply Kd.R_alloc | apply Kd.R_drewN | apply Kd.R_drew)); exact Kd.R_mono HO349.out (fun _ hk => ⟨hk.1.2, hk.2⟩)), (by (with_reducible repeat (first | apply Kd.R_alloc | apply Kd.R_drewN | apply Kd.R_drew)); exact Kd.R_mono HO353.out (fun _ hk => ⟨hk.1.2, hk.2⟩)), (by (with_reducible repeat (first | apply Kd.R_alloc | apply Kd.R_drewN | apply Kd.R_drew)); exact Kd.R_mono HO358.out (fun _ hk => ⟨hk.1.2, hk.2⟩)), (by repeat (first | (with_reducible first | exact HB.out | apply below_alloc | apply pw_below_drewN | apply below_drew1) | exact HB.out))⟩)
                                            ·skip
                                             refine Kd.R_make_step (Kd.int .u8) _ 5 (by rfl) (N := 70) rfl 29 _ _ rfl 65 rfl rfl Try.underlying29 (.int .u8 0) 1 info5 rfl (by decide) (by omega) 0 (ok := fun _ => True) (okp := fun _ => True) rfl (fun _ hk => hk) trivial (by omega) (by omega) (Below.refl _ _) (Nat.le_refl _) ?_
                                             intro v363 w60 ho61 hb hg_ hnew_
                                             clear hg_ hnew_
                                             (first | rw [← Ny362.out] at ho61 | (simp only [Int.reduceToNat] at ho61; rw [← Ny362.out] at ho61))
                                             have n0_ := Aside0.mk (Kd.R_elder' (by (with_reducible repeat (first | apply Kd.R_alloc | apply Kd.R_drewN | apply Kd.R_drew)); exact HO339.out) (Kd.R_base ho61) hb)
                                             have n1_ := Aside0.mk (Kd.R_below (by (with_reducible repeat (first | apply Kd.R_alloc | apply Kd.R_drewN | apply Kd.R_drew)); exact HO349.out) hb)
                                             have n2_ := Aside0.mk (Kd.R_below (by (with_reducible repeat (first | apply Kd.R_alloc | apply Kd.R_drewN | apply Kd.R_drew)); exact HO353.out) hb)
                                             have n3_ := Aside0.mk (Kd.R_lower (Kd.R_new' ho61 (Kd.R_lt (by (with_reducible repeat (first | apply Kd.R_alloc | apply Kd.R_drewN | apply Kd.R_drew)); exact HO339.out))) (below_size (by repeat (first | (with_reducible first | exact HB.out | apply below_alloc | apply pw_below_drewN | apply below_drew1) | exact HB.out))))
                                             have n4_ := Aside0.mk (below_step (by repeat (first | (with_reducible first | exact HB.out | apply below_alloc | apply pw_below_drewN | apply below_drew1) | exact HB.out)) hb)
                                             clear HO339
                                             clear HO349
                                             clear HO353
                                             clear HB
                                             have HO339 := n0_
                                             have HO349 := n1_
                                             have HO353 := n2_
                                             have HO364 := n3_
                                             have HB := n4_
                                             clear n0_ n1_ n2_ n3_ n4_
                                             clear hb ho61
                                             refine hK.out _ _ trivial (fun hHeld => ?_)
                                             clear hK K
                                             refine norm_ (a' := ?_) ?_ ?_
                                             rotate_left
                                             ·show Act.put _ (some 70) _ = _
                                              simp only [Act.put, List.setIfInBounds_toArray, List.set_cons_zero, List.set_cons_succ, i64_w, i32_w]
                                              rfl
                                             exact norm_ (by first | (simp only [putAll, Act.put, List.setIfInBounds_toArray, List.set_cons_zero, List.set_cons_succ]; done) | (simp only [putAll, Act.put, List.setIfInBounds_toArray, List.set_cons_zero, List.set_cons_succ]; rfl)) (hJ3 (v363) _ ⟨(by (with_reducible repeat (first | apply Kd.R_alloc | apply Kd.R_drewN | apply Kd.R_drew)); exact Kd.R_mono HO339.out (fun _ hk => hk.2)), (by (with_reducible repeat (first | apply Kd.R_alloc | apply Kd.R_drewN | apply Kd.R_drew)); exact Kd.R_mono HO349.out (fun _ hk => hk.2)), (by (with_reducible repeat (first | apply Kd.R_alloc | apply Kd.R_drewN | apply Kd.R_drew)); exact Kd.R_mono HO353.out (fun _ hk => hk.2)), (by (with_reducible repeat (first | apply Kd.R_alloc | apply Kd.R_drewN | apply Kd.R_drew)); exact Kd.R_mono HO364.out (fun _ hk => hk.2)), (by repeat (first | (with_reducible first | exact HB.out | apply below_alloc | apply pw_below_drewN | apply below_drew1) | exact HB.out))⟩)
                                           ·skip
                                            rintro v363 w62 ⟨h0_, h1_, h2_, h3_, h4_⟩
                                            have n0_ : Aside0 (Kd.R (Kd.int .u8) 5 w62 w.heap.size (fun k_ => some k_ ≠ (v363 : Value).ownBlock) v338 y337) := ⟨h0_⟩
                                            have n1_ : Aside0 (Kd.R Kd.string 9 w62 w.heap.size (fun k_ => some k_ ≠ (v352 : Value).ownBlock) (.slice Ao57 t346.length co57) t346) := ⟨h1_⟩
                                            have n2_ : Aside0 (Kd.R Kd.string 9 w62 w.heap.size (fun k_ => some k_ ≠ (.slice Ao57 t346.length co57 : Value).ownBlock) v352 t350) := ⟨h2_⟩
                                            have n3_ : Aside0 (Kd.R (Kd.int .u8) 5 w62 w.heap.size (fun k_ => some k_ ≠ (v338 : Value).ownBlock) v363 y362) := ⟨h3_⟩
                                            have n4_ : Aside0 (Below w.heap.size w w62) := ⟨h4_⟩
                                            clear HO339
                                            clear HO349
                                            clear HO353
                                            clear HB
                                            clear h0_ h1_ h2_ h3_ h4_
                                            have HO339 := n0_
                                            have HO349 := n1_
                                            have HO353 := n2_
                                            have HO364 := n3_
                                            have HB := n4_
                                            clear n0_ n1_ n2_ n3_ n4_
                                            have hHeld := trivial
                                            refine norm_ (a' := ?_) ?_ ?_
                                            rotate_left
                                            ·simp only [putAll, Act.put, List.setIfInBounds_toArray, List.set_cons_zero, List.set_cons_succ]
                                             rfl
                                            refine two_ (i := 0) (j := 4) (Ni := some 67) (Nj := some 71) #[true, true, false, true, false, false, false, false, false, false, false, false, false] #[false, true, false, true, true, false, false, false, false, false, false, false, false] rfl rfl rfl rfl (two_of HT_.out (by kernel_rfl)) (by decide) (by decide) (fun K hK => ?_) (fun K hK => ?_)
                                            ·skip
                                             refine Kd.R_lit_step Kd.string _ 9 ?hg (N := 67) ?hd (xs := ([] : List ByteArray)) (inner := []) (ok := fun _ => True) (okp := fun _ => True) ?hr ?hp (fun _ hk => hk) trivial (Below.refl _ _) (Nat.le_refl _) (by simp) ?_; (case hd => rfl); (case hg => rfl); (case hr => first | (go_simp; done) | (go_simp; rfl)); (case hp => exact (Reps.none _ _))
                                             intro v357 w63 ho64 hb hg_ hnew_
                                             clear hg_ hnew_
                                             (first | rw [← Ny356.out] at ho64 | (simp only [Int.reduceToNat] at ho64; rw [← Ny356.out] at ho64))
                                             have n0_ := Aside0.mk (Kd.R_below (by (with_reducible repeat (first | apply Kd.R_alloc | apply Kd.R_drewN | apply Kd.R_drew)); exact HO339.out) hb)
                                             have n1_ := Aside0.mk (Kd.R_elder' (by (with_reducible repeat (first | apply Kd.R_alloc | apply Kd.R_drewN | apply Kd.R_drew)); exact HO349.out) (Kd.R_base ho64) hb)
                                             have n2_ := Aside0.mk (Kd.R_elder' (by (with_reducible repeat (first | apply Kd.R_alloc | apply Kd.R_drewN | apply Kd.R_drew)); exact HO353.out) (Kd.R_base ho64) hb)
                                             have n3_ := Aside0.mk (Kd.R_below (by (with_reducible repeat (first | apply Kd.R_alloc | apply Kd.R_drewN | apply Kd.R_drew)); exact HO364.out) hb)
                                             have n4_ := Aside0.mk (Kd.R_lower (Kd.R_new' (Kd.R_new' ho64 (Kd.R_lt (by (with_reducible repeat (first | apply Kd.R_alloc | apply Kd.R_drewN | apply Kd.R_drew)); exact HO349.out))) (Kd.R_lt (by (with_reducible repeat (first | apply Kd.R_alloc | apply Kd.R_drewN | apply Kd.R_drew)); exact HO353.out))) (below_size (by repeat (first | (with_reducible first | exact HB.out | apply below_alloc | apply pw_below_drewN | apply below_drew1) | exact HB.out))))
                                             have n5_ := Aside0.mk (below_step (by repeat (first | (with_reducible first | exact HB.out | apply below_alloc | apply pw_below_drewN | apply below_drew1) | exact HB.out)) hb)
                                             clear HO339
                                             clear HO349
                                             clear HO353
                                             clear HO364
                                             clear HB
                                             have HO339 := n0_
                                             have HO349 := n1_
                                             have HO353 := n2_
                                             have HO364 := n3_
                                             have HO358 := n4_
                                             have HB := n5_
                                             clear n0_ n1_ n2_ n3_ n4_ n5_
                                             clear hb ho64
                                             refine hK.out _ _ trivial (fun hHeld => ?_)
                                             clear hK K
                                             refine norm_ (a' := ?_) ?_ ?_
                                             rotate_left
                                             ·show Act.put _ (some 67) _ = _
                                              simp only [Act.put, List.setIfInBounds_toArray, List.set_cons_zero, List.set_cons_succ, i64_w, i32_w]
                                              rfl
                                             exact norm_ (by first | (simp only [putAll, Act.put, List.setIfInBounds_toArray, List.set_cons_zero, List.set_cons_succ]; done) | (simp only [putAll, Act.put, List.setIfInBounds_toArray, List.set_cons_zero, List.set_cons_succ]; rfl)) (hJ0_3 (v357, v363) _ ⟨(by (with_reducible repeat (first | apply Kd.R_alloc | apply Kd.R_drewN | apply Kd.R_drew)); exact HO339.out), (by (with_reducible repeat (first | apply Kd.R_alloc | apply Kd.R_drewN | apply Kd.R_drew)); exact HO349.out), (by (with_reducible repeat (first | apply Kd.R_alloc | apply Kd.R_drewN | apply Kd.R_drew)); exact HO353.out), (by (with_reducible repeat (first | apply Kd.R_alloc | apply Kd.R_drewN | apply Kd.R_drew)); exact Kd.R_mono HO358.out (fun _ hk => ⟨hk.1.2, hk.2⟩)), (by (with_reducible repeat (first | apply Kd.R_alloc | apply Kd.R_drewN | apply Kd.R_drew)); exact HO364.out), (by repeat (first | (with_reducible first | exact HB.out | apply below_alloc | apply pw_below_drewN | apply below_drew1) | exact HB.out))⟩)
                                            ·skip
                                             have hcv63 := own_string (P := Try.prog) Try.underlying29 Try.underlying5 Try.underlying9 (Kd.own_of_R HO364.out)
                                             refine value_ (w1 := ?_) (v := ?_) (by rfl) rfl ?_ ?_
                                             rotate_left 2
                                             ·go_simp
                                              constructor
                                              ·rfl
                                              ·rfl
                                             clear hcv63
                                             refine hK.out _ _ trivial (fun hHeld => ?_)
                                             clear hK K
                                             refine norm_ (a' := ?_) ?_ ?_
                                             rotate_left
                                             ·show Act.put _ (some 71) _ = _
                                              simp only [Act.put, List.setIfInBounds_toArray, List.set_cons_zero, List.set_cons_succ, i64_w, i32_w]
                                              rfl
                                             exact norm_ (by first | (simp only [putAll, Act.put, List.setIfInBounds_toArray, List.set_cons_zero, List.set_cons_succ]; done) | (simp only [putAll, Act.put, List.setIfInBounds_toArray, List.set_cons_zero, List.set_cons_succ]; rfl)) (hJ3_4 (v363) _ ⟨(by (with_reducible repeat (first | apply Kd.R_alloc | apply Kd.R_drewN | apply Kd.R_drew)); exact HO339.out), (by (with_reducible repeat (first | apply Kd.R_alloc | apply Kd.R_drewN | apply Kd.R_drew)); exact HO349.out), (by (with_reducible repeat (first | apply Kd.R_alloc | apply Kd.R_drewN | apply Kd.R_drew)); exact HO353.out), (by (with_reducible repeat (first | apply Kd.R_alloc | apply Kd.R_drewN | apply Kd.R_drew)); exact HO364.out), (by repeat (first | (with_reducible first | exact HB.out | apply below_alloc | apply pw_below_drewN | apply below_drew1) | exact HB.out))⟩)
                                          ·skip
                                           rintro v357 w62 ⟨h0_, h1_, h2_, h3_, h4_⟩
                                           have n0_ : Aside0 (Kd.R (Kd.int .u8) 5 w62 w.heap.size (fun _ => True) v338 y337) := ⟨h0_⟩
                                           have n1_ : Aside0 (Kd.R Kd.string 9 w62 w.heap.size (fun k_ => some k_ ≠ (v352 : Value).ownBlock ∧ some k_ ≠ (v357 : Value).ownBlock) (.slice Ao57 t346.length co57) t346) := ⟨h1_⟩
                                           have n2_ : Aside0 (Kd.R Kd.string 9 w62 w.heap.size (fun k_ => some k_ ≠ (.slice Ao57 t346.length co57 : Value).ownBlock ∧ some k_ ≠ (v357 : Value).ownBlock) v352 t350) := ⟨h2_⟩
                                           have n3_ : Aside0 (Kd.R Kd.string 9 w62 w.heap.size (fun k_ => some k_ ≠ (.slice Ao57 t346.length co57 : Value).ownBlock ∧ some k_ ≠ (v352 : Value).ownBlock) v357 y356) := ⟨h3_⟩
                                           have n4_ : Aside0 (Below w.heap.size w w62) := ⟨h4_⟩
                                           clear HO339
                                           clear HO349
                                           clear HO353
                                           clear HB
                                           clear h0_ h1_ h2_ h3_ h4_
                                           have HO339 := n0_
                                           have HO349 := n1_
                                           have HO353 := n2_
                                           have HO358 := n3_
                                           have HB := n4_
                                           clear n0_ n1_ n2_ n3_ n4_
                                           have hHeld := trivial
                                           refine norm_ (a' := ?_) ?_ ?_
                                           rotate_left
                                           ·simp only [putAll, Act.put, List.setIfInBounds_toArray, List.set_cons_zero, List.set_cons_succ]
                                            rfl
                                           refine two_ (i := 2) (j := 3) (Ni := some 69) (Nj := some 70) #[true, true, true, false, false, false, false, false, false, false, false, false, false] #[true, true, false, true, false, false, false, false, false, false, false, false, false] rfl rfl rfl rfl (two_of HT_.out (by kernel_rfl)) (by decide) (by decide) (fun K hK => ?_) (fun K hK => ?_)
                                           ·skip
                                            refine Kd.R_append_rows_step Kd.string (w0 := w) w.heap.size (by rfl) (.tmp 67) (.tmp 68) 41 9 (.string ⟨#[]⟩) 16 rfl Try.underlying41 info9 rfl (by decide) (by omega) v357 y356 t346 _ _ _ (fun k_ => some k_ ≠ (.slice Ao57 t346.length co57 : Value).ownBlock ∧ some k_ ≠ (v352 : Value).ownBlock) (fun _ => False) rfl rfl ?aO ?aR (fun _ _ h => h) (fun _ h => h.elim) ?aF ?aB ?aS ?aL ?_
                                            (case aR => repeat (first | exact (Kd.R_reads' HO349.out).2.2 | (with_reducible refine Kd.C_alloc ?_ _) | (with_reducible refine Kd.C_drewN ?_ _) | (with_reducible refine Kd.C_drew ?_)))
                                            (case aB => exact (by repeat (first | (with_reducible first | exact HB.out | apply below_alloc | apply pw_below_drewN | apply below_drew1) | exact HB.out)))
                                            (case aF => exact (fun k_ hk => ⟨Kd.fresh' (Kd.R_lt (by (with_reducible repeat (first | apply Kd.R_alloc | apply Kd.R_drewN | apply Kd.R_drew)); exact HO349.out)) k_ hk, Kd.fresh' (Kd.R_lt (by (with_reducible repeat (first | apply Kd.R_alloc | apply Kd.R_drewN | apply Kd.R_drew)); exact HO353.out)) k_ hk⟩))
                                            (case aO => exact (by (with_reducible repeat (first | apply Kd.R_alloc | apply Kd.R_drewN | apply Kd.R_drew)); exact HO358.out))
                                            (case aS => exact (below_size (by repeat (first | (with_reducible first | exact HB.out | apply below_alloc | apply pw_below_drewN | apply below_drew1) | exact HB.out))))
                                            (case aL => have := LMc18.out; omega)
                                            intro v360 w63 ho hb hg hat
                                            rw [← Ny359.out] at ho
                                            have n0_ := Aside0.mk (Kd.R_over' (by (with_reducible repeat (first | apply Kd.R_alloc | apply Kd.R_drewN | apply Kd.R_drew)); exact HO339.out) (Kd.R_typed (by (with_reducible repeat (first | apply Kd.R_alloc | apply Kd.R_drewN | apply Kd.R_drew)); exact HO358.out)) (by decide) hg)
                                            have n1_ := Aside0.mk (Kd.R_after (ok := (fun k_ => some k_ ≠ (v352 : Value).ownBlock)) (by (with_reducible repeat (first | apply Kd.R_alloc | apply Kd.R_drewN | apply Kd.R_drew)); exact HO349.out) hg hat)
                                            have n2_ := Aside0.mk (Kd.R_after (ok := (fun k_ => some k_ ≠ (.slice Ao57 t346.length co57 : Value).ownBlock)) (by (with_reducible repeat (first | apply Kd.R_alloc | apply Kd.R_drewN | apply Kd.R_drew)); exact HO353.out) hg hat)
                                            have n3_ := Aside0.mk (hb)
                                            have n4_ := Aside0.mk (ho)
                                            clear HO339
                                            clear HO349
                                            clear HO353
                                            clear HB
                                            clear HO358
                                            have HO339 := n0_
                                            have HO349 := n1_
                                            have HO353 := n2_
                                            have HB := n3_
                                            have HO361 := n4_
                                            clear n0_ n1_ n2_ n3_ n4_
                                            clear ho hb hg hat
                                            refine hK.out _ _ trivial (fun hHeld => ?_)
                                            clear hK K
                                            refine norm_ (a' := ?_) ?_ ?_
                                            rotate_left
                                            ·show Act.put _ (some 69) _ = _
                                             simp only [Act.put, List.setIfInBounds_toArray, List.set_cons_zero, List.set_cons_succ, i64_w, i32_w]
                                             rfl
                                            exact norm_ (by first | (simp only [putAll, Act.put, List.setIfInBounds_toArray, List.set_cons_zero, List.set_cons_succ]; done) | (simp only [putAll, Act.put, List.setIfInBounds_toArray, List.set_cons_zero, List.set_cons_succ]; rfl)) (hJ0_2 (v357, v360) _ ⟨(by (with_reducible repeat (first | apply Kd.R_alloc | apply Kd.R_drewN | apply Kd.R_drew)); exact HO339.out), (by (with_reducible repeat (first | apply Kd.R_alloc | apply Kd.R_drewN | apply Kd.R_drew)); exact HO349.out), (by (with_reducible repeat (first | apply Kd.R_alloc | apply Kd.R_drewN | apply Kd.R_drew)); exact HO353.out), (by (with_reducible repeat (first | apply Kd.R_alloc | apply Kd.R_drewN | apply Kd.R_drew)); exact HO361.out), (by repeat (first | (with_reducible first | exact HB.out | apply below_alloc | apply pw_below_drewN | apply below_drew1) | exact HB.out))⟩)
                                           ·skip
                                            refine Kd.R_make_step (Kd.int .u8) _ 5 (by rfl) (N := 70) rfl 29 _ _ rfl 65 rfl rfl Try.underlying29 (.int .u8 0) 1 info5 rfl (by decide) (by omega) 0 (ok := fun _ => True) (okp := fun _ => True) rfl (fun _ hk => hk) trivial (by omega) (by omega) (Below.refl _ _) (Nat.le_refl _) ?_
                                            intro v363 w63 ho64 hb hg_ hnew_
                                            clear hg_ hnew_
                                            (first | rw [← Ny362.out] at ho64 | (simp only [Int.reduceToNat] at ho64; rw [← Ny362.out] at ho64))
                                            have n0_ := Aside0.mk (Kd.R_elder' (by (with_reducible repeat (first | apply Kd.R_alloc | apply Kd.R_drewN | apply Kd.R_drew)); exact HO339.out) (Kd.R_base ho64) hb)
                                            have n1_ := Aside0.mk (Kd.R_below (by (with_reducible repeat (first | apply Kd.R_alloc | apply Kd.R_drewN | apply Kd.R_drew)); exact HO349.out) hb)
                                            have n2_ := Aside0.mk (Kd.R_below (by (with_reducible repeat (first | apply Kd.R_alloc | apply Kd.R_drewN | apply Kd.R_drew)); exact HO353.out) hb)
                                            have n3_ := Aside0.mk (Kd.R_below (by (with_reducible repeat (first | apply Kd.R_alloc | apply Kd.R_drewN | apply Kd.R_drew)); exact HO358.out) hb)
                                            have n4_ := Aside0.mk (Kd.R_lower (Kd.R_new' ho64 (Kd.R_lt (by (with_reducible repeat (first | apply Kd.R_alloc | apply Kd.R_drewN | apply Kd.R_drew)); exact HO339.out))) (below_size (by repeat (first | (with_reducible first | exact HB.out | apply below_alloc | apply pw_below_drewN | apply below_drew1) | exact HB.out))))
                                            have n5_ := Aside0.mk (below_step (by repeat (first | (with_reducible first | exact HB.out | apply below_alloc | apply pw_below_drewN | apply below_drew1) | exact HB.out)) hb)
                                            clear HO339
                                            clear HO349
                                            clear HO353
                                            clear HO358
                                            clear HB
                                            have HO339 := n0_
                                            have HO349 := n1_
                                            have HO353 := n2_
                                            have HO358 := n3_
                                            have HO364 := n4_
                                            have HB := n5_
                                            clear n0_ n1_ n2_ n3_ n4_ n5_
                                            clear hb ho64
                                            refine hK.out _ _ trivial (fun hHeld => ?_)
                                            clear hK K
                                            refine norm_ (a' := ?_) ?_ ?_
                                            rotate_left
                                            ·show Act.put _ (some 70) _ = _
                                             simp only [Act.put, List.setIfInBounds_toArray, List.set_cons_zero, List.set_cons_succ, i64_w, i32_w]
                                             rfl
                                            exact norm_ (by first | (simp only [putAll, Act.put, List.setIfInBounds_toArray, List.set_cons_zero, List.set_cons_succ]; done) | (simp only [putAll, Act.put, List.setIfInBounds_toArray, List.set_cons_zero, List.set_cons_succ]; rfl)) (hJ0_3 (v357, v363) _ ⟨(by (with_reducible repeat (first | apply Kd.R_alloc | apply Kd.R_drewN | apply Kd.R_drew)); exact Kd.R_mono HO339.out (fun _ hk => hk.2)), (by (with_reducible repeat (first | apply Kd.R_alloc | apply Kd.R_drewN | apply Kd.R_drew)); exact HO349.out), (by (with_reducible repeat (first | apply Kd.R_alloc | apply Kd.R_drewN | apply Kd.R_drew)); exact HO353.out), (by (with_reducible repeat (first | apply Kd.R_alloc | apply Kd.R_drewN | apply Kd.R_drew)); exact HO358.out), (by (with_reducible repeat (first | apply Kd.R_alloc | apply Kd.R_drewN | apply Kd.R_drew)); exact Kd.R_mono HO364.out (fun _ hk => hk.2)), (by repeat (first | (with_reducible first | exact HB.out | apply below_alloc | apply pw_below_drewN | apply below_drew1) | exact HB.out))⟩)
                                         ·skip
                                          rintro v363 w63 ⟨h0_, h1_, h2_, h3_, h4_⟩
                                          have n0_ : Aside0 (Kd.R (Kd.int .u8) 5 w63 w.heap.size (fun k_ => some k_ ≠ (v363 : Value).ownBlock) v338 y337) := ⟨h0_⟩
                                          have n1_ : Aside0 (Kd.R Kd.string 9 w63 w.heap.size (fun k_ => some k_ ≠ (v352 : Value).ownBlock) (.slice Ao57 t346.length co57) t346) := ⟨h1_⟩
                                          have n2_ : Aside0 (Kd.R Kd.string 9 w63 w.heap.size (fun k_ => some k_ ≠ (.slice Ao57 t346.length co57 : Value).ownBlock) v352 t350) := ⟨h2_⟩
                                          have n3_ : Aside0 (Kd.R (Kd.int .u8) 5 w63 w.heap.size (fun k_ => some k_ ≠ (v338 : Value).ownBlock) v363 y362) := ⟨h3_⟩
                                          have n4_ : Aside0 (Below w.heap.size w w63) := ⟨h4_⟩
                                          clear HO339
                                          clear HO349
                                          clear HO353
                                          clear HB
                                          clear h0_ h1_ h2_ h3_ h4_
                                          have HO339 := n0_
                                          have HO349 := n1_
                                          have HO353 := n2_
                                          have HO364 := n3_
                                          have HB := n4_
                                          clear n0_ n1_ n2_ n3_ n4_
                                          have hHeld := trivial
                                          refine norm_ (a' := ?_) ?_ ?_
                                          rotate_left
                                          ·simp only [putAll, Act.put, List.setIfInBounds_toArray, List.set_cons_zero, List.set_cons_succ]
                                           rfl
                                          refine two_ (i := 0) (j := 5) (Ni := some 67) (Nj := some 72) #[true, true, false, true, true, false, false, false, false, false, false, false, false] #[false, true, false, true, true, true, false, false, false, false, false, false, false] rfl rfl rfl rfl (two_of HT_.out (by kernel_rfl)) (by decide) (by decide) (fun K hK => ?_) (fun K hK => ?_)
                                          ·skip
                                           refine Kd.R_lit_step Kd.string _ 9 ?hg (N := 67) ?hd (xs := ([] : List ByteArray)) (inner := []) (ok := fun _ => True) (okp := fun _ => True) ?hr ?hp (fun _ hk => hk) trivial (Below.refl _ _) (Nat.le_refl _) (by simp) ?_; (case hd => rfl); (case hg => rfl); (case hr => first | (go_simp; done) | (go_simp; rfl)); (case hp => exact (Reps.none _ _))
                                           intro v357 w64 ho65 hb hg_ hnew_
                                           clear hg_ hnew_
                                           (first | rw [← Ny356.out] at ho65 | (simp only [Int.reduceToNat] at ho65; rw [← Ny356.out] at ho65))
                                           have n0_ := Aside0.mk (Kd.R_below (by (with_reducible repeat (first | apply Kd.R_alloc | apply Kd.R_drewN | apply Kd.R_drew)); exact HO339.out) hb)
                                           have n1_ := Aside0.mk (Kd.R_elder' (by (with_reducible repeat (first | apply Kd.R_alloc | apply Kd.R_drewN | apply Kd.R_drew)); exact HO349.out) (Kd.R_base ho65) hb)
                                           have n2_ := Aside0.mk (Kd.R_elder' (by (with_reducible repeat (first | apply Kd.R_alloc | apply Kd.R_drewN | apply Kd.R_drew)); exact HO353.out) (Kd.R_base ho65) hb)
                                           have n3_ := Aside0.mk (Kd.R_below (by (with_reducible repeat (first | apply Kd.R_alloc | apply Kd.R_drewN | apply Kd.R_drew)); exact HO364.out) hb)
                                           have n4_ := Aside0.mk (Kd.R_lower (Kd.R_new' (Kd.R_new' ho65 (Kd.R_lt (by (with_reducible repeat (first | apply Kd.R_alloc | apply Kd.R_drewN | apply Kd.R_drew)); exact HO349.out))) (Kd.R_lt (by (with_reducible repeat (first | apply Kd.R_alloc | apply Kd.R_drewN | apply Kd.R_drew)); exact HO353.out))) (below_size (by repeat (first | (with_reducible first | exact HB.out | apply below_alloc | apply pw_below_drewN | apply below_drew1) | exact HB.out))))
                                           have n5_ := Aside0.mk (below_step (by repeat (first | (with_reducible first | exact HB.out | apply below_alloc | apply pw_below_drewN | apply below_drew1) | exact HB.out)) hb)
                                           clear HO339
                                           clear HO349
                                           clear HO353
                                           clear HO364
                                           clear HB
                                           have HO339 := n0_
                                           have HO349 := n1_
                                           have HO353 := n2_
                                           have HO364 := n3_
                                           have HO358 := n4_
                                           have HB := n5_
                                           clear n0_ n1_ n2_ n3_ n4_ n5_
                                           clear hb ho65
                                           refine hK.out _ _ trivial (fun hHeld => ?_)
                                           clear hK K
                                           refine norm_ (a' := ?_) ?_ ?_
                                           rotate_left
                                           ·show Act.put _ (some 67) _ = _
                                            simp only [Act.put, List.setIfInBounds_toArray, List.set_cons_zero, List.set_cons_succ, i64_w, i32_w]
                                            rfl
                                           exact norm_ (by first | (simp only [putAll, Act.put, List.setIfInBounds_toArray, List.set_cons_zero, List.set_cons_succ]; done) | (simp only [putAll, Act.put, List.setIfInBounds_toArray, List.set_cons_zero, List.set_cons_succ]; rfl)) (hJ0_3_4 (v357, v363) _ ⟨(by (with_reducible repeat (first | apply Kd.R_alloc | apply Kd.R_drewN | apply Kd.R_drew)); exact HO339.out), (by (with_reducible repeat (first | apply Kd.R_alloc | apply Kd.R_drewN | apply Kd.R_drew)); exact HO349.out), (by (with_reducible repeat (first | apply Kd.R_alloc | apply Kd.R_drewN | apply Kd.R_drew)); exact HO353.out), (by (with_reducible repeat (first | apply Kd.R_alloc | apply Kd.R_drewN | apply Kd.R_drew)); exact Kd.R_mono HO358.out (fun _ hk => ⟨hk.1.2, hk.2⟩)), (by (with_reducible repeat (first | apply Kd.R_alloc | apply Kd.R_drewN | apply Kd.R_drew)); exact HO364.out), (by repeat (first | (with_reducible first | exact HB.out | apply below_alloc | apply pw_below_drewN | apply below_drew1) | exact HB.out))⟩)
                                          ·skip
                                           refine Kd.R_lit_step Kd.string _ 9 ?hg (N := 72) ?hd (xs := ([strOfNums y362] : List ByteArray)) (inner := [.string (strOfNums y362)]) (ok := fun _ => True) (okp := fun _ => True) ?hr ?hp (fun _ hk => hk) trivial (Below.refl _ _) (Nat.le_refl _) (by simp) ?_; (case hd => rfl); (case hg => rfl); (case hr => first | (go_simp; done) | (go_simp; rfl)); (case hp => exact (Reps.one (show Kd.M Kd.string _ _ _ (strOfNums y362) [.string (strOfNums y362)] from rfl) (Reps.none _ _)))
                                           intro v366 w64 ho65 hb hg_ hnew_
                                           clear hg_ hnew_
                                           (first | rw [← Ny365.out] at ho65 | (simp only [Int.reduceToNat] at ho65; rw [← Ny365.out] at ho65))
                                           have n0_ := Aside0.mk (Kd.R_below (by (with_reducible repeat (first | apply Kd.R_alloc | apply Kd.R_drewN | apply Kd.R_drew)); exact HO339.out) hb)
                                           have n1_ := Aside0.mk (Kd.R_elder' (by (with_reducible repeat (first | apply Kd.R_alloc | apply Kd.R_drewN | apply Kd.R_drew)); exact HO349.out) (Kd.R_base ho65) hb)
                                           have n2_ := Aside0.mk (Kd.R_elder' (by (with_reducible repeat (first | apply Kd.R_alloc | apply Kd.R_drewN | apply Kd.R_drew)); exact HO353.out) (Kd.R_base ho65) hb)
                                           have n3_ := Aside0.mk (Kd.R_below (by (with_reducible repeat (first | apply Kd.R_alloc | apply Kd.R_drewN | apply Kd.R_drew)); exact HO364.out) hb)
                                           have n4_ := Aside0.mk (Kd.R_lower (Kd.R_new' (Kd.R_new' ho65 (Kd.R_lt (by (with_reducible repeat (first | apply Kd.R_alloc | apply Kd.R_drewN | apply Kd.R_drew)); exact HO349.out))) (Kd.R_lt (by (with_reducible repeat (first | apply Kd.R_alloc | apply Kd.R_drewN | apply Kd.R_drew)); exact HO353.out))) (below_size (by repeat (first | (with_reducible first | exact HB.out | apply below_alloc | apply pw_below_drewN | apply below_drew1) | exact HB.out))))
                                           have n5_ := Aside0.mk (below_step (by repeat (first | (with_reducible first | exact HB.out | apply below_alloc | apply pw_below_drewN | apply below_drew1) | exact HB.out)) hb)
                                           clear HO339
                                           clear HO349
                                           clear HO353
                                           clear HO364
                                           clear HB
                                           have HO339 := n0_
                                           have HO349 := n1_
                                           have HO353 := n2_
                                           have HO364 := n3_
                                           have HO367 := n4_
                                           have HB := n5_
                                           clear n0_ n1_ n2_ n3_ n4_ n5_
                                           clear hb ho65
                                           refine hK.out _ _ trivial (fun hHeld => ?_)
                                           clear hK K
                                           refine norm_ (a' := ?_) ?_ ?_
                                           rotate_left
                                           ·show Act.put _ (some 72) _ = _
                                            simp only [Act.put, List.setIfInBounds_toArray, List.set_cons_zero, List.set_cons_succ, i64_w, i32_w]
                                            rfl
                                           exact norm_ (by first | (simp only [putAll, Act.put, List.setIfInBounds_toArray, List.set_cons_zero, List.set_cons_succ]; done) | (simp only [putAll, Act.put, List.setIfInBounds_toArray, List.set_cons_zero, List.set_cons_succ]; rfl)) (hJ3_4_5 (v363, v366) _ ⟨(by (with_reducible repeat (first | apply Kd.R_alloc | apply Kd.R_drewN | apply Kd.R_drew)); exact HO339.out), (by (with_reducible repeat (first | apply Kd.R_alloc | apply Kd.R_drewN | apply Kd.R_drew)); exact HO349.out), (by (with_reducible repeat (first | apply Kd.R_alloc | apply Kd.R_drewN | apply Kd.R_drew)); exact HO353.out), (by (with_reducible repeat (first | apply Kd.R_alloc | apply Kd.R_drewN | apply Kd.R_drew)); exact HO364.out), (by (with_reducible repeat (first | apply Kd.R_alloc | apply Kd.R_drewN | apply Kd.R_drew)); exact Kd.R_mono HO367.out (fun _ hk => ⟨hk.1.2, hk.2⟩)), (by repeat (first | (with_reducible first | exact HB.out | apply below_alloc | apply pw_below_drewN | apply below_drew1) | exact HB.out))⟩)
                                        ·skip
                                         rintro ⟨v357, v363⟩ w64 ⟨h0_, h1_, h2_, h3_, h4_, h5_⟩
                                         have n0_ : Aside0 (Kd.R (Kd.int .u8) 5 w64 w.heap.size (fun k_ => some k_ ≠ (v363 : Value).ownBlock) v338 y337) := ⟨h0_⟩
                                         have n1_ : Aside0 (Kd.R Kd.string 9 w64 w.heap.size (fun k_ => some k_ ≠ (v352 : Value).ownBlock ∧ some k_ ≠ (v357 : Value).ownBlock) (.slice Ao57 t346.length co57) t346) := ⟨h1_⟩
                                         have n2_ : Aside0 (Kd.R Kd.string 9 w64 w.heap.size (fun k_ => some k_ ≠ (.slice Ao57 t346.length co57 : Value).ownBlock ∧ some k_ ≠ (v357 : Value).ownBlock) v352 t350) := ⟨h2_⟩
                                         have n3_ : Aside0 (Kd.R Kd.string 9 w64 w.heap.size (fun k_ => some k_ ≠ (.slice Ao57 t346.length co57 : Value).ownBlock ∧ some k_ ≠ (v352 : Value).ownBlock) v357 y356) := ⟨h3_⟩
                                         have n4_ : Aside0 (Kd.R (Kd.int .u8) 5 w64 w.heap.size (fun k_ => some k_ ≠ (v338 : Value).ownBlock) v363 y362) := ⟨h4_⟩
                                         have n5_ : Aside0 (Below w.heap.size w w64) := ⟨h5_⟩
                                         clear HO339
                                         clear HO349
                                         clear HO353
                                         clear HB
                                         clear h0_ h1_ h2_ h3_ h4_ h5_
                                         have HO339 := n0_
                                         have HO349 := n1_
                                         have HO353 := n2_
                                         have HO358 := n3_
                                         have HO364 := n4_
                                         have HB := n5_
                                         clear n0_ n1_ n2_ n3_ n4_ n5_
                                         have hHeld := trivial
                                         refine norm_ (a' := ?_) ?_ ?_
                                         rotate_left
                                         ·simp only [putAll, Act.put, List.setIfInBounds_toArray, List.set_cons_zero, List.set_cons_succ]
                                          rfl
                                         refine two_ (i := 2) (j := 4) (Ni := some 69) (Nj := some 71) #[true, true, true, true, false, false, false, false, false, false, false, false, false] #[true, true, false, true, true, false, false, false, false, false, false, false, false] rfl rfl rfl rfl (two_of HT_.out (by kernel_rfl)) (by decide) (by decide) (fun K hK => ?_) (fun K hK => ?_)
                                         ·skip
                                          refine Kd.R_append_rows_step Kd.string (w0 := w) w.heap.size (by rfl) (.tmp 67) (.tmp 68) 41 9 (.string ⟨#[]⟩) 16 rfl Try.underlying41 info9 rfl (by decide) (by omega) v357 y356 t346 _ _ _ (fun k_ => some k_ ≠ (.slice Ao57 t346.length co57 : Value).ownBlock ∧ some k_ ≠ (v352 : Value).ownBlock) (fun _ => False) rfl rfl ?aO ?aR (fun _ _ h => h) (fun _ h => h.elim) ?aF ?aB ?aS ?aL ?_
                                          (case aR => repeat (first | exact (Kd.R_reads' HO349.out).2.2 | (with_reducible refine Kd.C_alloc ?_ _) | (with_reducible refine Kd.C_drewN ?_ _) | (with_reducible refine Kd.C_drew ?_)))
                                          (case aB => exact (by repeat (first | (with_reducible first | exact HB.out | apply below_alloc | apply pw_below_drewN | apply below_drew1) | exact HB.out)))
                                          (case aF => exact (fun k_ hk => ⟨Kd.fresh' (Kd.R_lt (by (with_reducible repeat (first | apply Kd.R_alloc | apply Kd.R_drewN | apply Kd.R_drew)); exact HO349.out)) k_ hk, Kd.fresh' (Kd.R_lt (by (with_reducible repeat (first | apply Kd.R_alloc | apply Kd.R_drewN | apply Kd.R_drew)); exact HO353.out)) k_ hk⟩))
                                          (case aO => exact (by (with_reducible repeat (first | apply Kd.R_alloc | apply Kd.R_drewN | apply Kd.R_drew)); exact HO358.out))
                                          (case aS => exact (below_size (by repeat (first | (with_reducible first | exact HB.out | apply below_alloc | apply pw_below_drewN | apply below_drew1) | exact HB.out))))
                                          (case aL => have := LMc18.out; omega)
                                          intro v360 w65 ho hb hg hat
                                          rw [← Ny359.out] at ho
                                          have n0_ := Aside0.mk (Kd.R_over' (by (with_reducible repeat (first | apply Kd.R_alloc | apply Kd.R_drewN | apply Kd.R_drew)); exact HO339.out) (Kd.R_typed (by (with_reducible repeat (first | apply Kd.R_alloc | apply Kd.R_drewN | apply Kd.R_drew)); exact HO358.out)) (by decide) hg)
                                          have n1_ := Aside0.mk (Kd.R_after (ok := (fun k_ => some k_ ≠ (v352 : Value).ownBlock)) (by (with_reducible repeat (first | apply Kd.R_alloc | apply Kd.R_drewN | apply Kd.R_drew)); exact HO349.out) hg hat)
                                          have n2_ := Aside0.mk (Kd.R_after (ok := (fun k_ => some k_ ≠ (.slice Ao57 t346.length co57 : Value).ownBlock)) (by (with_reducible repeat (first | apply Kd.R_alloc | apply Kd.R_drewN | apply Kd.R_drew)); exact HO353.out) hg hat)
                                          have n3_ := Aside0.mk (Kd.R_over' (by (with_reducible repeat (first | apply Kd.R_alloc | apply Kd.R_drewN | apply Kd.R_drew)); exact HO364.out) (Kd.R_typed (by (with_reducible repeat (first | apply Kd.R_alloc | apply Kd.R_drewN | apply Kd.R_drew)); exact HO358.out)) (by decide) hg)
                                          have n4_ := Aside0.mk (hb)
                                          have n5_ := Aside0.mk (ho)
                                          clear HO339
                                          clear HO349
                                          clear HO353
                                          clear HO364
                                          clear HB
                                          clear HO358
                                          have HO339 := n0_
                                          have HO349 := n1_
                                          have HO353 := n2_
                                          have HO364 := n3_
                                          have HB := n4_
                                          have HO361 := n5_
                                          clear n0_ n1_ n2_ n3_ n4_ n5_
                                          clear ho hb hg hat
                                          refine hK.out _ _ trivial (fun hHeld => ?_)
                                          clear hK K
                                          refine norm_ (a' := ?_) ?_ ?_
                                          rotate_left
                                          ·show Act.put _ (some 69) _ = _
                                           simp only [Act.put, List.setIfInBounds_toArray, List.set_cons_zero, List.set_cons_succ, i64_w, i32_w]
                                           rfl
                                          exact norm_ (by first | (simp only [putAll, Act.put, List.setIfInBounds_toArray, List.set_cons_zero, List.set_cons_succ]; done) | (simp only [putAll, Act.put, List.setIfInBounds_toArray, List.set_cons_zero, List.set_cons_succ]; rfl)) (hJ0_2_3 (v357, v360, v363) _ ⟨(by (with_reducible repeat (first | apply Kd.R_alloc | apply Kd.R_drewN | apply Kd.R_drew)); exact HO339.out), (by (with_reducible repeat (first | apply Kd.R_alloc | apply Kd.R_drewN | apply Kd.R_drew)); exact HO349.out), (by (with_reducible repeat (first | apply Kd.R_alloc | apply Kd.R_drewN | apply Kd.R_drew)); exact HO353.out), (by (with_reducible repeat (first | apply Kd.R_alloc | apply Kd.R_drewN | apply Kd.R_drew)); exact HO361.out), (by (with_reducible repeat (first | apply Kd.R_alloc | apply Kd.R_drewN | apply Kd.R_drew)); exact HO364.out), (by repeat (first | (with_reducible first | exact HB.out | apply below_alloc | apply pw_below_drewN | apply below_drew1) | exact HB.out))⟩)
                                         ·skip
                                          have hcv65 := own_string (P := Try.prog) Try.underlying29 Try.underlying5 Try.underlying9 (Kd.own_of_R HO364.out)
                                          refine value_ (w1 := ?_) (v := ?_) (by rfl) rfl ?_ ?_
                                          rotate_left 2
                                          ·go_simp
                                           constructor
                                           ·rfl
                                           ·rfl
                                          clear hcv65
                                          refine hK.out _ _ trivial (fun hHeld => ?_)
                                          clear hK K
                                          refine norm_ (a' := ?_) ?_ ?_
                                          rotate_left
                                          ·show Act.put _ (some 71) _ = _
                                           simp only [Act.put, List.setIfInBounds_toArray, List.set_cons_zero, List.set_cons_succ, i64_w, i32_w]
                                           rfl
                                          exact norm_ (by first | (simp only [putAll, Act.put, List.setIfInBounds_toArray, List.set_cons_zero, List.set_cons_succ]; done) | (simp only [putAll, Act.put, List.setIfInBounds_toArray, List.set_cons_zero, List.set_cons_succ]; rfl)) (hJ0_3_4 (v357, v363) _ ⟨(by (with_reducible repeat (first | apply Kd.R_alloc | apply Kd.R_drewN | apply Kd.R_drew)); exact HO339.out), (by (with_reducible repeat (first | apply Kd.R_alloc | apply Kd.R_drewN | apply Kd.R_drew)); exact HO349.out), (by (with_reducible repeat (first | apply Kd.R_alloc | apply Kd.R_drewN | apply Kd.R_drew)); exact HO353.out), (by (with_reducible repeat (first | apply Kd.R_alloc | apply Kd.R_drewN | apply Kd.R_drew)); exact HO358.out), (by (with_reducible repeat (first | apply Kd.R_alloc | apply Kd.R_drewN | apply Kd.R_drew)); exact HO364.out), (by repeat (first | (with_reducible first | exact HB.out | apply below_alloc | apply pw_below_drewN | apply below_drew1) | exact HB.out))⟩)
                                       ·skip
                                        rintro ⟨v357, v360⟩ w63 ⟨h0_, h1_, h2_, h3_, h4_⟩
                                        have n0_ : Aside0 (Kd.R (Kd.int .u8) 5 w63 w.heap.size (fun _ => True) v338 y337) := ⟨h0_⟩
                                        have n1_ : Aside0 (Kd.R Kd.string 9 w63 w.heap.size (fun k_ => some k_ ≠ (v352 : Value).ownBlock ∧ some k_ ≠ (v360 : Value).ownBlock) (.slice Ao57 t346.length co57) t346) := ⟨h1_⟩
                                        have n2_ : Aside0 (Kd.R Kd.string 9 w63 w.heap.size (fun k_ => some k_ ≠ (.slice Ao57 t346.length co57 : Value).ownBlock ∧ some k_ ≠ (v360 : Value).ownBlock) v352 t350) := ⟨h2_⟩
                                        have n3_ : Aside0 (Kd.R Kd.string 9 w63 w.heap.size (fun k_ => some k_ ≠ (.slice Ao57 t346.length co57 : Value).ownBlock ∧ some k_ ≠ (v352 : Value).ownBlock) v360 y359) := ⟨h3_⟩
                                        have n4_ : Aside0 (Below w.heap.size w w63) := ⟨h4_⟩
                                        clear HO339
                                        clear HO349
                                        clear HO353
                                        clear HB
                                        clear h0_ h1_ h2_ h3_ h4_
                                        have HO339 := n0_
                                        have HO349 := n1_
                                        have HO353 := n2_
                                        have HO361 := n3_
                                        have HB := n4_
                                        clear n0_ n1_ n2_ n3_ n4_
                                        have hHeld := trivial
                                        refine norm_ (a' := ?_) ?_ ?_
                                        rotate_left
                                        ·simp only [putAll, Act.put, List.setIfInBounds_toArray, List.set_cons_zero, List.set_cons_succ]
                                         rfl
                                        refine one_ (i := 3) (N := some 70) #[true, true, true, true, false, false, false, false, false, false, false, false, false] rfl rfl (one_of HT_.out (by kernel_rfl)) (by decide) (fun K hK => ?_)
                                        refine Kd.R_make_step (Kd.int .u8) _ 5 (by rfl) (N := 70) rfl 29 _ _ rfl 65 rfl rfl Try.underlying29 (.int .u8 0) 1 info5 rfl (by decide) (by omega) 0 (ok := fun _ => True) (okp := fun _ => True) rfl (fun _ hk => hk) trivial (by omega) (by omega) (Below.refl _ _) (Nat.le_refl _) ?_
                                        intro v363 w64 ho65 hb hg_ hnew_
                                        clear hg_ hnew_
                                        (first | rw [← Ny362.out] at ho65 | (simp only [Int.reduceToNat] at ho65; rw [← Ny362.out] at ho65))
                                        have n0_ := Aside0.mk (Kd.R_elder' (by (with_reducible repeat (first | apply Kd.R_alloc | apply Kd.R_drewN | apply Kd.R_drew)); exact HO339.out) (Kd.R_base ho65) hb)
                                        have n1_ := Aside0.mk (Kd.R_below (by (with_reducible repeat (first | apply Kd.R_alloc | apply Kd.R_drewN | apply Kd.R_drew)); exact HO349.out) hb)
                                        have n2_ := Aside0.mk (Kd.R_below (by (with_reducible repeat (first | apply Kd.R_alloc | apply Kd.R_drewN | apply Kd.R_drew)); exact HO353.out) hb)
                                        have n3_ := Aside0.mk (Kd.R_below (by (with_reducible repeat (first | apply Kd.R_alloc | apply Kd.R_drewN | apply Kd.R_drew)); exact HO361.out) hb)
                                        have n4_ := Aside0.mk (Kd.R_lower (Kd.R_new' ho65 (Kd.R_lt (by (with_reducible repeat (first | apply Kd.R_alloc | apply Kd.R_drewN | apply Kd.R_drew)); exact HO339.out))) (below_size (by repeat (first | (with_reducible first | exact HB.out | apply below_alloc | apply pw_below_drewN | apply below_drew1) | exact HB.out))))
                                        have n5_ := Aside0.mk (below_step (by repeat (first | (with_reducible first | exact HB.out | apply below_alloc | apply pw_below_drewN | apply below_drew1) | exact HB.out)) hb)
                                        clear HO339
                                        clear HO349
                                        clear HO353
                                        clear HO361
                                        clear HB
                                        have HO339 := n0_
                                        have HO349 := n1_
                                        have HO353 := n2_
                                        have HO361 := n3_
                                        have HO364 := n4_
                                        have HB := n5_
                                        clear n0_ n1_ n2_ n3_ n4_ n5_
                                        clear hb ho65
                                        refine hK.out _ _ trivial (fun hHeld => ?_)
                                        clear hK K
                                        refine norm_ (a' := ?_) ?_ ?_
                                        rotate_left
                                        ·show Act.put _ (some 70) _ = _
                                         simp only [Act.put, List.setIfInBounds_toArray, List.set_cons_zero, List.set_cons_succ, i64_w, i32_w]
                                         rfl
                                        exact norm_ (by first | (simp only [putAll, Act.put, List.setIfInBounds_toArray, List.set_cons_zero, List.set_cons_succ]; done) | (simp only [putAll, Act.put, List.setIfInBounds_toArray, List.set_cons_zero, List.set_cons_succ]; rfl)) (hJ0_2_3 (v357, v360, v363) _ ⟨(by (with_reducible repeat (first | apply Kd.R_alloc | apply Kd.R_drewN | apply Kd.R_drew)); exact Kd.R_mono HO339.out (fun _ hk => hk.2)), (by (with_reducible repeat (first | apply Kd.R_alloc | apply Kd.R_drewN | apply Kd.R_drew)); exact HO349.out), (by (with_reducible repeat (first | apply Kd.R_alloc | apply Kd.R_drewN | apply Kd.R_drew)); exact HO353.out), (by (with_reducible repeat (first | apply Kd.R_alloc | apply Kd.R_drewN | apply Kd.R_drew)); exact HO361.out), (by (with_reducible repeat (first | apply Kd.R_alloc | apply Kd.R_drewN | apply Kd.R_drew)); exact Kd.R_mono HO364.out (fun _ hk => hk.2)), (by repeat (first | (with_reducible first | exact HB.out | apply below_alloc | apply pw_below_drewN | apply below_drew1) | exact HB.out))⟩)
                                      ·skip
                                       rintro ⟨v363, v366⟩ w65 ⟨h0_, h1_, h2_, h3_, h4_, h5_⟩
                                       have n0_ : Aside0 (Kd.R (Kd.int .u8) 5 w65 w.heap.size (fun k_ => some k_ ≠ (v363 : Value).ownBlock) v338 y337) := ⟨h0_⟩
                                       have n1_ : Aside0 (Kd.R Kd.string 9 w65 w.heap.size (fun k_ => some k_ ≠ (v352 : Value).ownBlock ∧ some k_ ≠ (v366 : Value).ownBlock) (.slice Ao57 t346.length co57) t346) := ⟨h1_⟩
                                       have n2_ : Aside0 (Kd.R Kd.string 9 w65 w.heap.size (fun k_ => some k_ ≠ (.slice Ao57 t346.length co57 : Value).ownBlock ∧ some k_ ≠ (v366 : Value).ownBlock) v352 t350) := ⟨h2_⟩
                                       have n3_ : Aside0 (Kd.R (Kd.int .u8) 5 w65 w.heap.size (fun k_ => some k_ ≠ (v338 : Value).ownBlock) v363 y362) := ⟨h3_⟩
                                       have n4_ : Aside0 (Kd.R Kd.string 9 w65 w.heap.size (fun k_ => some k_ ≠ (.slice Ao57 t346.length co57 : Value).ownBlock ∧ some k_ ≠ (v352 : Value).ownBlock) v366 y365) := ⟨h4_⟩
                                       have n5_ : Aside0 (Below w.heap.size w w65) := ⟨h5_⟩
                                       clear HO339
                                       clear HO349
                                       clear HO353
                                       clear HB
                                       clear h0_ h1_ h2_ h3_ h4_ h5_
                                       have HO339 := n0_
                                       have HO349 := n1_
                                       have HO353 := n2_
                                       have HO364 := n3_
                                       have HO367 := n4_
                                       have HB := n5_
                                       clear n0_ n1_ n2_ n3_ n4_ n5_
                                       have hHeld := trivial
                                       refine norm_ (a' := ?_) ?_ ?_
                                       rotate_left
                                       ·simp only [putAll, Act.put, List.setIfInBounds_toArray, List.set_cons_zero, List.set_cons_succ]
                                        rfl
                                       refine one_ (i := 0) (N := some 67) #[true, true, false, true, true, true, false, false, false, false, false, false, false] rfl rfl (one_of HT_.out (by kernel_rfl)) (by decide) (fun K hK => ?_)
                                       refine Kd.R_lit_step Kd.string _ 9 ?hg (N := 67) ?hd (xs := ([] : List ByteArray)) (inner := []) (ok := fun _ => True) (okp := fun _ => True) ?hr ?hp (fun _ hk => hk) trivial (Below.refl _ _) (Nat.le_refl _) (by simp) ?_; (case hd => rfl); (case hg => rfl); (case hr => first | (go_simp; done) | (go_simp; rfl)); (case hp => exact (Reps.none _ _))
                                       intro v357 w66 ho67 hb hg_ hnew_
                                       clear hg_ hnew_
                                       (first | rw [← Ny356.out] at ho67 | (simp only [Int.reduceToNat] at ho67; rw [← Ny356.out] at ho67))
                                       have n0_ := Aside0.mk (Kd.R_below (by (with_reducible repeat (first | apply Kd.R_alloc | apply Kd.R_drewN | apply Kd.R_drew)); exact HO339.out) hb)
                                       have n1_ := Aside0.mk (Kd.R_elder' (by (with_reducible repeat (first | apply Kd.R_alloc | apply Kd.R_drewN | apply Kd.R_drew)); exact HO349.out) (Kd.R_base ho67) hb)
                                       have n2_ := Aside0.mk (Kd.R_elder' (by (with_reducible repeat (first | apply Kd.R_alloc | apply Kd.R_drewN | apply Kd.R_drew)); exact HO353.out) (Kd.R_base ho67) hb)
                                       have n3_ := Aside0.mk (Kd.R_below (by (with_reducible repeat (first | apply Kd.R_alloc | apply Kd.R_drewN | apply Kd.R_drew)); exact HO364.out) hb)
                                       have n4_ := Aside0.mk (Kd.R_elder' (by (with_reducible repeat (first | apply Kd.R_alloc | apply Kd.R_drewN | apply Kd.R_drew)); exact HO367.out) (Kd.R_base ho67) hb)
                                       have n5_ := Aside0.mk (Kd.R_lower (Kd.R_new' (Kd.R_new' (Kd.R_new' ho67 (Kd.R_lt (by (with_reducible repeat (first | apply Kd.R_alloc | apply Kd.R_drewN | apply Kd.R_drew)); exact HO349.out))) (Kd.R_lt (by (with_reducible repeat (first | apply Kd.R_alloc | apply Kd.R_drewN | apply Kd.R_drew)); exact HO353.out))) (Kd.R_lt (by (with_reducible repeat (first | apply Kd.R_alloc | apply Kd.R_drewN | apply Kd.R_drew)); exact HO367.out))) (below_size (by repeat (first | (with_reducible first | exact HB.out | apply below_alloc | apply pw_below_drewN | apply below_drew1) | exact HB.out))))
                                       have n6_ := Aside0.mk (below_step (by repeat (first | (with_reducible first | exact HB.out | apply below_alloc | apply pw_below_drewN | apply below_drew1) | exact HB.out)) hb)
                                       clear HO339
                                       clear HO349
                                       clear HO353
                                       clear HO364
                                       clear HO367
                                       clear HB
                                       have HO339 := n0_
                                       have HO349 := n1_
                                       have HO353 := n2_
                                       have HO364 := n3_
                                       have HO367 := n4_
                                       have HO358 := n5_
                                       have HB := n6_
                                       clear n0_ n1_ n2_ n3_ n4_ n5_ n6_
                                       clear hb ho67
                                       refine hK.out _ _ trivial (fun hHeld => ?_)
                                       clear hK K
                                       refine norm_ (a' := ?_) ?_ ?_
                                       rotate_left
                                       ·show Act.put _ (some 67) _ = _
                                        simp only [Act.put, List.setIfInBounds_toArray, List.set_cons_zero, List.set_cons_succ, i64_w, i32_w]
                                        rfl
                                       exact norm_ (by first | (simp only [putAll, Act.put, List.setIfInBounds_toArray, List.set_cons_zero, List.set_cons_succ]; done) | (simp only [putAll, Act.put, List.setIfInBounds_toArray, List.set_cons_zero, List.set_cons_succ]; rfl)) (hJ0_3_4_5 (v357, v363, v366) _ ⟨(by (with_reducible repeat (first | apply Kd.R_alloc | apply Kd.R_drewN | apply Kd.R_drew)); exact HO339.out), (by (with_reducible repeat (first | apply Kd.R_alloc | apply Kd.R_drewN | apply Kd.R_drew)); exact Kd.R_mono HO349.out (fun _ hk => ⟨hk.1.1, ⟨hk.2, hk.1.2⟩⟩)), (by (with_reducible repeat (first | apply Kd.R_alloc | apply Kd.R_drewN | apply Kd.R_drew)); exact Kd.R_mono HO353.out (fun _ hk => ⟨hk.1.1, ⟨hk.2, hk.1.2⟩⟩)), (by (with_reducible repeat (first | apply Kd.R_alloc | apply Kd.R_drewN | apply Kd.R_drew)); exact Kd.R_mono HO358.out (fun _ hk => ⟨hk.1.1.2, ⟨hk.1.2, hk.2⟩⟩)), (by (with_reducible repeat (first | apply Kd.R_alloc | apply Kd.R_drewN | apply Kd.R_drew)); exact HO364.out), (by (with_reducible repeat (first | apply Kd.R_alloc | apply Kd.R_drewN | apply Kd.R_drew)); exact Kd.R_mono HO367.out (fun _ hk => ⟨hk.1.1, ⟨hk.1.2, hk.2⟩⟩)), (by repeat (first | (with_reducible first | exact HB.out | apply below_alloc | apply pw_below_drewN | apply below_drew1) | exact HB.out))⟩)
                                     ·skip
                                      rintro ⟨v357, v363⟩ w65 ⟨h0_, h1_, h2_, h3_, h4_, h5_⟩
                                      have n0_ : Aside0 (Kd.R (Kd.int .u8) 5 w65 w.heap.size (fun k_ => some k_ ≠ (v363 : Value).ownBlock) v338 y337) := ⟨h0_⟩
                                      have n1_ : Aside0 (Kd.R Kd.string 9 w65 w.heap.size (fun k_ => some k_ ≠ (v352 : Value).ownBlock ∧ some k_ ≠ (v357 : Value).ownBlock) (.slice Ao57 t346.length co57) t346) := ⟨h1_⟩
                                      have n2_ : Aside0 (Kd.R Kd.string 9 w65 w.heap.size (fun k_ => some k_ ≠ (.slice Ao57 t346.length co57 : Value).ownBlock ∧ some k_ ≠ (v357 : Value).ownBlock) v352 t350) := ⟨h2_⟩
                                      have n3_ : Aside0 (Kd.R Kd.string 9 w65 w.heap.size (fun k_ => some k_ ≠ (.slice Ao57 t346.length co57 : Value).ownBlock ∧ some k_ ≠ (v352 : Value).ownBlock) v357 y356) := ⟨h3_⟩
                                      have n4_ : Aside0 (Kd.R (Kd.int .u8) 5 w65 w.heap.size (fun k_ => some k_ ≠ (v338 : Value).ownBlock) v363 y362) := ⟨h4_⟩
                                      have n5_ : Aside0 (Below w.heap.size w w65) := ⟨h5_⟩
                                      clear HO339
                                      clear HO349
                                      clear HO353
                                      clear HB
                                      clear h0_ h1_ h2_ h3_ h4_ h5_
                                      have HO339 := n0_
                                      have HO349 := n1_
                                      have HO353 := n2_
                                      have HO358 := n3_
                                      have HO364 := n4_
                                      have HB := n5_
                                      clear n0_ n1_ n2_ n3_ n4_ n5_
                                      have hHeld := trivial
                                      refine norm_ (a' := ?_) ?_ ?_
                                      rotate_left
                                      ·simp only [putAll, Act.put, List.setIfInBounds_toArray, List.set_cons_zero, List.set_cons_succ]
                                       rfl
                                      refine two_ (i := 2) (j := 5) (Ni := some 69) (Nj := some 72) #[true, true, true, true, true, false, false, false, false, false, false, false, false] #[true, true, false, true, true, true, false, false, false, false, false, false, false] rfl rfl rfl rfl (two_of HT_.out (by kernel_rfl)) (by decide) (by decide) (fun K hK => ?_) (fun K hK => ?_)
                                      ·skip
                                       refine Kd.R_append_rows_step Kd.string (w0 := w) w.heap.size (by rfl) (.tmp 67) (.tmp 68) 41 9 (.string ⟨#[]⟩) 16 rfl Try.underlying41 info9 rfl (by decide) (by omega) v357 y356 t346 _ _ _ (fun k_ => some k_ ≠ (.slice Ao57 t346.length co57 : Value).ownBlock ∧ some k_ ≠ (v352 : Value).ownBlock) (fun _ => False) rfl rfl ?aO ?aR (fun _ _ h => h) (fun _ h => h.elim) ?aF ?aB ?aS ?aL ?_
                                       (case aR => repeat (first | exact (Kd.R_reads' HO349.out).2.2 | (with_reducible refine Kd.C_alloc ?_ _) | (with_reducible refine Kd.C_drewN ?_ _) | (with_reducible refine Kd.C_drew ?_)))
                                       (case aB => exact (by repeat (first | (with_reducible first | exact HB.out | apply below_alloc | apply pw_below_drewN | apply below_drew1) | exact HB.out)))
                                       (case aF => exact (fun k_ hk => ⟨Kd.fresh' (Kd.R_lt (by (with_reducible repeat (first | apply Kd.R_alloc | apply Kd.R_drewN | apply Kd.R_drew)); exact HO349.out)) k_ hk, Kd.fresh' (Kd.R_lt (by (with_reducible repeat (first | apply Kd.R_alloc | apply Kd.R_drewN | apply Kd.R_drew)); exact HO353.out)) k_ hk⟩))
                                       (case aO => exact (by (with_reducible repeat (first | apply Kd.R_alloc | apply Kd.R_drewN | apply Kd.R_drew)); exact HO358.out))
                                       (case aS => exact (below_size (by repeat (first | (with_reducible first | exact HB.out | apply below_alloc | apply pw_below_drewN | apply below_drew1) | exact HB.out))))
                                       (case aL => have := LMc18.out; omega)
                                       intro v360 w66 ho hb hg hat
                                       rw [← Ny359.out] at ho
                                       have n0_ := Aside0.mk (Kd.R_over' (by (with_reducible repeat (first | apply Kd.R_alloc | apply Kd.R_drewN | apply Kd.R_drew)); exact HO339.out) (Kd.R_typed (by (with_reducible repeat (first | apply Kd.R_alloc | apply Kd.R_drewN | apply Kd.R_drew)); exact HO358.out)) (by decide) hg)
                                       have n1_ := Aside0.mk (Kd.R_after (ok := (fun k_ => some k_ ≠ (v352 : Value).ownBlock)) (by (with_reducible repeat (first | apply Kd.R_alloc | apply Kd.R_drewN | apply Kd.R_drew)); exact HO349.out) hg hat)
                                       have n2_ := Aside0.mk (Kd.R_after (ok := (fun k_ => some k_ ≠ (.slice Ao57 t346.length co57 : Value).ownBlock)) (by (with_reducible repeat (first | apply Kd.R_alloc | apply Kd.R_drewN | apply Kd.R_drew)); exact HO353.out) hg hat)
                                       have n3_ := Aside0.mk (Kd.R_over' (by (with_reducible repeat (first | apply Kd.R_alloc | apply Kd.R_drewN | apply Kd.R_drew)); exact HO364.out) (Kd.R_typed (by (with_reducible repeat (first | apply Kd.R_alloc | apply Kd.R_drewN | apply Kd.R_drew)); exact HO358.out)) (by decide) hg)
                                       have n4_ := Aside0.mk (hb)
                                       have n5_ := Aside0.mk (ho)
                                       clear HO339
                                       clear HO349
                                       clear HO353
                                       clear HO364
                                       clear HB
                                       clear HO358
                                       have HO339 := n0_
                                       have HO349 := n1_
                                       have HO353 := n2_
                                       have HO364 := n3_
                                       have HB := n4_
                                       have HO361 := n5_
                                       clear n0_ n1_ n2_ n3_ n4_ n5_
                                       clear ho hb hg hat
                                       refine hK.out _ _ trivial (fun hHeld => ?_)
                                       clear hK K
                                       refine norm_ (a' := ?_) ?_ ?_
                                       rotate_left
                                       ·show Act.put _ (some 69) _ = _
                                        simp only [Act.put, List.setIfInBounds_toArray, List.set_cons_zero, List.set_cons_succ, i64_w, i32_w]
                                        rfl
                                       exact norm_ (by first | (simp only [putAll, Act.put, List.setIfInBounds_toArray, List.set_cons_zero, List.set_cons_succ]; done) | (simp only [putAll, Act.put, List.setIfInBounds_toArray, List.set_cons_zero, List.set_cons_succ]; rfl)) (hJ0_2_3_4 (v357, v360, v363) _ ⟨(by (with_reducible repeat (first | apply Kd.R_alloc | apply Kd.R_drewN | apply Kd.R_drew)); exact HO339.out), (by (with_reducible repeat (first | apply Kd.R_alloc | apply Kd.R_drewN | apply Kd.R_drew)); exact HO349.out), (by (with_reducible repeat (first | apply Kd.R_alloc | apply Kd.R_drewN | apply Kd.R_drew)); exact HO353.out), (by (with_reducible repeat (first | apply Kd.R_alloc | apply Kd.R_drewN | apply Kd.R_drew)); exact HO361.out), (by (with_reducible repeat (first | apply Kd.R_alloc | apply Kd.R_drewN | apply Kd.R_drew)); exact HO364.out), (by repeat (first | (with_reducible first | exact HB.out | apply below_alloc | apply pw_below_drewN | apply below_drew1) | exact HB.out))⟩)
                                      ·skip
                                       refine Kd.R_lit_step Kd.string _ 9 ?hg (N := 72) ?hd (xs := ([strOfNums y362] : List ByteArray)) (inner := [.string (strOfNums y362)]) (ok := fun _ => True) (okp := fun _ => True) ?hr ?hp (fun _ hk => hk) trivial (Below.refl _ _) (Nat.le_refl _) (by simp) ?_; (case hd => rfl); (case hg => rfl); (case hr => first | (go_simp; done) | (go_simp; rfl)); (case hp => exact (Reps.one (show Kd.M Kd.string _ _ _ (strOfNums y362) [.string (strOfNums y362)] from rfl) (Reps.none _ _)))
                                       intro v366 w66 ho67 hb hg_ hnew_
                                       clear hg_ hnew_
                                       (first | rw [← Ny365.out] at ho67 | (simp only [Int.reduceToNat] at ho67; rw [← Ny365.out] at ho67))
                                       have n0_ := Aside0.mk (Kd.R_below (by (with_reducible repeat (first | apply Kd.R_alloc | apply Kd.R_drewN | apply Kd.R_drew)); exact HO339.out) hb)
                                       have n1_ := Aside0.mk (Kd.R_elder' (by (with_reducible repeat (first | apply Kd.R_alloc | apply Kd.R_drewN | apply Kd.R_drew)); exact HO349.out) (Kd.R_base ho67) hb)
                                       have n2_ := Aside0.mk (Kd.R_elder' (by (with_reducible repeat (first | apply Kd.R_alloc | apply Kd.R_drewN | apply Kd.R_drew)); exact HO353.out) (Kd.R_base ho67) hb)
                                       have n3_ := Aside0.mk (Kd.R_elder' (by (with_reducible repeat (first | apply Kd.R_alloc | apply Kd.R_drewN | apply Kd.R_drew)); exact HO358.out) (Kd.R_base ho67) hb)
                                       have n4_ := Aside0.mk (Kd.R_below (by (with_reducible repeat (first | apply Kd.R_alloc | apply Kd.R_drewN | apply Kd.R_drew)); exact HO364.out) hb)
                                       have n5_ := Aside0.mk (Kd.R_lower (Kd.R_new' (Kd.R_new' (Kd.R_new' ho67 (Kd.R_lt (by (with_reducible repeat (first | apply Kd.R_alloc | apply Kd.R_drewN | apply Kd.R_drew)); exact HO349.out))) (Kd.R_lt (by (with_reducible repeat (first | apply Kd.R_alloc | apply Kd.R_drewN | apply Kd.R_drew)); exact HO353.out))) (Kd.R_lt (by (with_reducible repeat (first | apply Kd.R_alloc | apply Kd.R_drewN | apply Kd.R_drew)); exact HO358.out))) (below_size (by repeat (first | (with_reducible first | exact HB.out | apply below_alloc | apply pw_below_drewN | apply below_drew1) | exact HB.out))))
                                       have n6_ := Aside0.mk (below_step (by repeat (first | (with_reducible first | exact HB.out | apply below_alloc | apply pw_below_drewN | apply below_drew1) | exact HB.out)) hb)
                                       clear HO339
                                       clear HO349
                                       clear HO353
                                       clear HO358
                                       clear HO364
                                       clear HB
                                       have HO339 := n0_
                                       have HO349 := n1_
                                       have HO353 := n2_
                                       have HO358 := n3_
                                       have HO364 := n4_
                                       have HO367 := n5_
                                       have HB := n6_
                                       clear n0_ n1_ n2_ n3_ n4_ n5_ n6_
                                       clear hb ho67
                                       refine hK.out _ _ trivial (fun hHeld => ?_)
                                       clear hK K
                                       refine norm_ (a' := ?_) ?_ ?_
                                       rotate_left
                                       ·show Act.put _ (some 72) _ = _
                                        simp only [Act.put, List.setIfInBounds_toArray, List.set_cons_zero, List.set_cons_succ, i64_w, i32_w]
                                        rfl
                                       exact norm_ (by first | (simp only [putAll, Act.put, List.setIfInBounds_toArray, List.set_cons_zero, List.set_cons_succ]; done) | (simp only [putAll, Act.put, List.setIfInBounds_toArray, List.set_cons_zero, List.set_cons_succ]; rfl)) (hJ0_3_4_5 (v357, v363, v366) _ ⟨(by (with_reducible repeat (first | apply Kd.R_alloc | apply Kd.R_drewN | apply Kd.R_drew)); exact HO339.out), (by (with_reducible repeat (first | apply Kd.R_alloc | apply Kd.R_drewN | apply Kd.R_drew)); exact Kd.R_mono HO349.out (fun _ hk => ⟨hk.1.1, ⟨hk.1.2, hk.2⟩⟩)), (by (with_reducible repeat (first | apply Kd.R_alloc | apply Kd.R_drewN | apply Kd.R_drew)); exact Kd.R_mono HO353.out (fun _ hk => ⟨hk.1.1, ⟨hk.1.2, hk.2⟩⟩)), (by (with_reducible repeat (first | apply Kd.R_alloc | apply Kd.R_drewN | apply Kd.R_drew)); exact Kd.R_mono HO358.out (fun _ hk => ⟨hk.1.1, ⟨hk.1.2, hk.2⟩⟩)), (by (with_reducible repeat (first | apply Kd.R_alloc | apply Kd.R_drewN | apply Kd.R_drew)); exact HO364.out), (by (with_reducible repeat (first | apply Kd.R_alloc | apply Kd.R_drewN | apply Kd.R_drew)); exact Kd.R_mono HO367.out (fun _ hk => ⟨hk.1.1.2, ⟨hk.1.2, hk.2⟩⟩)), (by repeat (first | (with_reducible first | exact HB.out | apply below_alloc | apply pw_below_drewN | apply below_drew1) | exact HB.out))⟩)
                                    ·skip
                                     rintro ⟨v357, v360, v363⟩ w65 ⟨h0_, h1_, h2_, h3_, h4_, h5_⟩
                                     have n0_ : Aside0 (Kd.R (Kd.int .u8) 5 w65 w.heap.size (fun k_ => some k_ ≠ (v363 : Value).ownBlock) v338 y337) := ⟨h0_⟩
                                     have n1_ : Aside0 (Kd.R Kd.string 9 w65 w.heap.size (fun k_ => some k_ ≠ (v352 : Value).ownBlock ∧ some k_ ≠ (v360 : Value).ownBlock) (.slice Ao57 t346.length co57) t346) := ⟨h1_⟩
                                     have n2_ : Aside0 (Kd.R Kd.string 9 w65 w.heap.size (fun k_ => some k_ ≠ (.slice Ao57 t346.length co57 : Value).ownBlock ∧ some k_ ≠ (v360 : Value).ownBlock) v352 t350) := ⟨h2_⟩
                                     have n3_ : Aside0 (Kd.R Kd.string 9 w65 w.heap.size (fun k_ => some k_ ≠ (.slice Ao57 t346.length co57 : Value).ownBlock ∧ some k_ ≠ (v352 : Value).ownBlock) v360 y359) := ⟨h3_⟩
                                     have n4_ : Aside0 (Kd.R (Kd.int .u8) 5 w65 w.heap.size (fun k_ => some k_ ≠ (v338 : Value).ownBlock) v363 y362) := ⟨h4_⟩
                                     have n5_ : Aside0 (Below w.heap.size w w65) := ⟨h5_⟩
                                     clear HO339
                                     clear HO349
                                     clear HO353
                                     clear HB
                                     clear h0_ h1_ h2_ h3_ h4_ h5_
                                     have HO339 := n0_
                                     have HO349 := n1_
                                     have HO353 := n2_
                                     have HO361 := n3_
                                     have HO364 := n4_
                                     have HB := n5_
                                     clear n0_ n1_ n2_ n3_ n4_ n5_
                                     have hHeld := trivial
                                     refine norm_ (a' := ?_) ?_ ?_
                                     rotate_left
                                     ·simp only [putAll, Act.put, List.setIfInBounds_toArray, List.set_cons_zero, List.set_cons_succ]
                                      rfl
                                     refine one_ (i := 4) (N := some 71) #[true, true, true, true, true, false, false, false, false, false, false, false, false] rfl rfl (one_of HT_.out (by kernel_rfl)) (by decide) (fun K hK => ?_)
                                     have hcv66 := own_string (P := Try.prog) Try.underlying29 Try.underlying5 Try.underlying9 (Kd.own_of_R HO364.out)
                                     refine value_ (w1 := ?_) (v := ?_) (by rfl) rfl ?_ ?_
                                     rotate_left 2
                                     ·go_simp
                                      constructor
                                      ·rfl
                                      ·rfl
                                     clear hcv66
                                     refine hK.out _ _ trivial (fun hHeld => ?_)
                                     clear hK K
                                     refine norm_ (a' := ?_) ?_ ?_
                                     rotate_left
                                     ·show Act.put _ (some 71) _ = _
                                      simp only [Act.put, List.setIfInBounds_toArray, List.set_cons_zero, List.set_cons_succ, i64_w, i32_w]
                                      rfl
                                     exact norm_ (by first | (simp only [putAll, Act.put, List.setIfInBounds_toArray, List.set_cons_zero, List.set_cons_succ]; done) | (simp only [putAll, Act.put, List.setIfInBounds_toArray, List.set_cons_zero, List.set_cons_succ]; rfl)) (hJ0_2_3_4 (v357, v360, v363) _ ⟨(by (with_reducible repeat (first | apply Kd.R_alloc | apply Kd.R_drewN | apply Kd.R_drew)); exact HO339.out), (by (with_reducible repeat (first | apply Kd.R_alloc | apply Kd.R_drewN | apply Kd.R_drew)); exact HO349.out), (by (with_reducible repeat (first | apply Kd.R_alloc | apply Kd.R_drewN | apply Kd.R_drew)); exact HO353.out), (by (with_reducible repeat (first | apply Kd.R_alloc | apply Kd.R_drewN | apply Kd.R_drew)); exact HO361.out), (by (with_reducible repeat (first | apply Kd.R_alloc | apply Kd.R_drewN | apply Kd.R_drew)); exact HO364.out), (by repeat (first | (with_reducible first | exact HB.out | apply below_alloc | apply pw_below_drewN | apply below_drew1) | exact HB.out))⟩)
                                   ·skip
                                    rintro ⟨v357, v363, v366⟩ w67 ⟨h0_, h1_, h2_, h3_, h4_, h5_, h6_⟩
                                    have n0_ : Aside0 (Kd.R (Kd.int .u8) 5 w67 w.heap.size (fun k_ => some k_ ≠ (v363 : Value).ownBlock) v338 y337) := ⟨h0_⟩
                                    have n1_ : Aside0 (Kd.R Kd.string 9 w67 w.heap.size (fun k_ => some k_ ≠ (v352 : Value).ownBlock ∧ some k_ ≠ (v357 : Value).ownBlock ∧ some k_ ≠ (v366 : Value).ownBlock) (.slice Ao57 t346.length co57) t346) := ⟨h1_⟩
                                    have n2_ : Aside0 (Kd.R Kd.string 9 w67 w.heap.size (fun k_ => some k_ ≠ (.slice Ao57 t346.length co57 : Value).ownBlock ∧ some k_ ≠ (v357 : Value).ownBlock ∧ some k_ ≠ (v366 : Value).ownBlock) v352 t350) := ⟨h2_⟩
                                    have n3_ : Aside0 (Kd.R Kd.string 9 w67 w.heap.size (fun k_ => some k_ ≠ (.slice Ao57 t346.length co57 : Value).ownBlock ∧ some k_ ≠ (v352 : Value).ownBlock ∧ some k_ ≠ (v366 : Value).ownBlock) v357 y356) := ⟨h3_⟩
                                    have n4_ : Aside0 (Kd.R (Kd.int .u8) 5 w67 w.heap.size (fun k_ => some k_ ≠ (v338 : Value).ownBlock) v363 y362) := ⟨h4_⟩
                                    have n5_ : Aside0 (Kd.R Kd.string 9 w67 w.heap.size (fun k_ => some k_ ≠ (.slice Ao57 t346.length co57 : Value).ownBlock ∧ some k_ ≠ (v352 : Value).ownBlock ∧ some k_ ≠ (v357 : Value).ownBlock) v366 y365) := ⟨h5_⟩
                                    have n6_ : Aside0 (Below w.heap.size w w67) := ⟨h6_⟩
                                    clear HO339
                                    clear HO349
                                    clear HO353
                                    clear HB
                                    clear h0_ h1_ h2_ h3_ h4_ h5_ h6_
                                    have HO339 := n0_
                                    have HO349 := n1_
                                    have HO353 := n2_
                                    have HO358 := n3_
                                    have HO364 := n4_
                                    have HO367 := n5_
                                    have HB := n6_
                                    clear n0_ n1_ n2_ n3_ n4_ n5_ n6_
                                    have hHeld := trivial
                                    refine norm_ (a' := ?_) ?_ ?_
                                    rotate_left
                                    ·simp only [putAll, Act.put, List.setIfInBounds_toArray, List.set_cons_zero, List.set_cons_succ]
                                     rfl
                                    refine one_ (i := 2) (N := some 69) #[true, true, true, true, true, true, false, false, false, false, false, false, false] rfl rfl (one_of HT_.out (by kernel_rfl)) (by decide) (fun K hK => ?_)
                                    refine Kd.R_append_rows_step Kd.string (w0 := w) w.heap.size (by rfl) (.tmp 67) (.tmp 68) 41 9 (.string ⟨#[]⟩) 16 rfl Try.underlying41 info9 rfl (by decide) (by omega) v357 y356 t346 _ _ _ (fun k_ => some k_ ≠ (.slice Ao57 t346.length co57 : Value).ownBlock ∧ some k_ ≠ (v352 : Value).ownBlock ∧ some k_ ≠ (v366 : Value).ownBlock) (fun _ => False) rfl rfl ?aO ?aR (fun _ _ h => h) (fun _ h => h.elim) ?aF ?aB ?aS ?aL ?_
                                    (case aR => repeat (first | exact (Kd.R_reads' HO349.out).2.2 | (with_reducible refine Kd.C_alloc ?_ _) | (with_reducible refine Kd.C_drewN ?_ _) | (with_reducible refine Kd.C_drew ?_)))
                                    (case aB => exact (by repeat (first | (with_reducible first | exact HB.out | apply below_alloc | apply pw_below_drewN | apply below_drew1) | exact HB.out)))
                                    (case aF => exact (fun k_ hk => ⟨Kd.fresh' (Kd.R_lt (by (with_reducible repeat (first | apply Kd.R_alloc | apply Kd.R_drewN | apply Kd.R_drew)); exact HO349.out)) k_ hk, Kd.fresh' (Kd.R_lt (by (with_reducible repeat (first | apply Kd.R_alloc | apply Kd.R_drewN | apply Kd.R_drew)); exact HO353.out)) k_ hk, Kd.fresh' (Kd.R_lt (by (with_reducible repeat (first | apply Kd.R_alloc | apply Kd.R_drewN | apply Kd.R_drew)); exact HO367.out)) k_ hk⟩))
                                    (case aO => exact (by (with_reducible repeat (first | apply Kd.R_alloc | apply Kd.R_drewN | apply Kd.R_drew)); exact HO358.out))
                                    (case aS => exact (below_size (by repeat (first | (with_reducible first | exact HB.out | apply below_alloc | apply pw_below_drewN | apply below_drew1) | exact HB.out))))
                                    (case aL => have := LMc18.out; omega)
                                    intro v360 w68 ho hb hg hat
                                    rw [← Ny359.out] at ho
                                    have n0_ := Aside0.mk (Kd.R_over' (by (with_reducible repeat (first | apply Kd.R_alloc | apply Kd.R_drewN | apply Kd.R_drew)); exact HO339.out) (Kd.R_typed (by (with_reducible repeat (first | apply Kd.R_alloc | apply Kd.R_drewN | apply Kd.R_drew)); exact HO358.out)) (by decide) hg)
                                    have n1_ := Aside0.mk (Kd.R_after (ok := (fun k_ => some k_ ≠ (v352 : Value).ownBlock ∧ some k_ ≠ (v366 : Value).ownBlock)) (by (with_reducible repeat (first | apply Kd.R_alloc | apply Kd.R_drewN | apply Kd.R_drew)); exact Kd.R_mono HO349.out (fun _ hk => ⟨⟨hk.1, hk.2.2⟩, hk.2.1⟩)) hg hat)
                                    have n2_ := Aside0.mk (Kd.R_after (ok := (fun k_ => some k_ ≠ (.slice Ao57 t346.length co57 : Value).ownBlock ∧ some k_ ≠ (v366 : Value).ownBlock)) (by (with_reducible repeat (first | apply Kd.R_alloc | apply Kd.R_drewN | apply Kd.R_drew)); exact Kd.R_mono HO353.out (fun _ hk => ⟨⟨hk.1, hk.2.2⟩, hk.2.1⟩)) hg hat)
                                    have n3_ := Aside0.mk (Kd.R_over' (by (with_reducible repeat (first | apply Kd.R_alloc | apply Kd.R_drewN | apply Kd.R_drew)); exact HO364.out) (Kd.R_typed (by (with_reducible repeat (first | apply Kd.R_alloc | apply Kd.R_drewN | apply Kd.R_drew)); exact HO358.out)) (by decide) hg)
                                    have n4_ := Aside0.mk (Kd.R_after (ok := (fun k_ => some k_ ≠ (.slice Ao57 t346.length co57 : Value).ownBlock ∧ some k_ ≠ (v352 : Value).ownBlock)) (by (with_reducible repeat (first | apply Kd.R_alloc | apply Kd.R_drewN | apply Kd.R_drew)); exact Kd.R_mono HO367.out (fun _ hk => ⟨⟨hk.1, hk.2.1⟩, hk.2.2⟩)) hg hat)
                                    have n5_ := Aside0.mk (hb)
                                    have n6_ := Aside0.mk (ho)
                                    clear HO339
                                    clear HO349
                                    clear HO353
                                    clear HO364
                                    clear HO367
                                    clear HB
                                    clear HO358
                                    have HO339 := n0_
                                    have HO349 := n1_
                                    have HO353 := n2_
                                    have HO364 := n3_
                                    have HO367 := n4_
                                    have HB := n5_
                                    have HO361 := n6_
                                    clear n0_ n1_ n2_ n3_ n4_ n5_ n6_
                                    clear ho hb hg hat
                                    refine hK.out _ _ trivial (fun hHeld => ?_)
                                    clear hK K
                                    refine norm_ (a' := ?_) ?_ ?_
                                    rotate_left
                                    ·show Act.put _ (some 69) _ = _
                                     simp only [Act.put, List.setIfInBounds_toArray, List.set_cons_zero, List.set_cons_succ, i64_w, i32_w]
                                     rfl
                                    exact norm_ (by first | (simp only [putAll, Act.put, List.setIfInBounds_toArray, List.set_cons_zero, List.set_cons_succ]; done) | (simp only [putAll, Act.put, List.setIfInBounds_toArray, List.set_cons_zero, List.set_cons_succ]; rfl)) (hJ0_2_3_4_5 (v357, v360, v363, v366) _ ⟨(by (with_reducible repeat (first | apply Kd.R_alloc | apply Kd.R_drewN | apply Kd.R_drew)); exact HO339.out), (by (with_reducible repeat (first | apply Kd.R_alloc | apply Kd.R_drewN | apply Kd.R_drew)); exact Kd.R_mono HO349.out (fun _ hk => ⟨hk.1.1, ⟨hk.2, hk.1.2⟩⟩)), (by (with_reducible repeat (first | apply Kd.R_alloc | apply Kd.R_drewN | apply Kd.R_drew)); exact Kd.R_mono HO353.out (fun _ hk => ⟨hk.1.1, ⟨hk.2, hk.1.2⟩⟩)), (by (with_reducible repeat (first | apply Kd.R_alloc | apply Kd.R_drewN | apply Kd.R_drew)); exact HO361.out), (by (with_reducible repeat (first | apply Kd.R_alloc | apply Kd.R_drewN | apply Kd.R_drew)); exact HO364.out), (by (with_reducible repeat (first | apply Kd.R_alloc | apply Kd.R_drewN | apply Kd.R_drew)); exact Kd.R_mono HO367.out (fun _ hk => ⟨hk.1.1, ⟨hk.1.2, hk.2⟩⟩)), (by repeat (first | (with_reducible first | exact HB.out | apply below_alloc | apply pw_below_drewN | apply below_drew1) | exact HB.out))⟩)
                                  ·skip
                                   rintro ⟨v357, v360, v363⟩ w66 ⟨h0_, h1_, h2_, h3_, h4_, h5_⟩
                                   have n0_ : Aside0 (Kd.R (Kd.int .u8) 5 w66 w.heap.size (fun k_ => some k_ ≠ (v363 : Value).ownBlock) v338 y337) := ⟨h0_⟩
                                   have n1_ : Aside0 (Kd.R Kd.string 9 w66 w.heap.size (fun k_ => some k_ ≠ (v352 : Value).ownBlock ∧ some k_ ≠ (v360 : Value).ownBlock) (.slice Ao57 t346.length co57) t346) := ⟨h1_⟩
                                   have n2_ : Aside0 (Kd.R Kd.string 9 w66 w.heap.size (fun k_ => some k_ ≠ (.slice Ao57 t346.length co57 : Value).ownBlock ∧ some k_ ≠ (v360 : Value).ownBlock) v352 t350) := ⟨h2_⟩
                                   have n3_ : Aside0 (Kd.R Kd.string 9 w66 w.heap.size (fun k_ => some k_ ≠ (.slice Ao57 t346.length co57 : Value).ownBlock ∧ some k_ ≠ (v352 : Value).ownBlock) v360 y359) := ⟨h3_⟩
                                   have n4_ : Aside0 (Kd.R (Kd.int .u8) 5 w66 w.heap.size (fun k_ => some k_ ≠ (v338 : Value).ownBlock) v363 y362) := ⟨h4_⟩
                                   have n5_ : Aside0 (Below w.heap.size w w66) := ⟨h5_⟩
                                   clear HO339
                                   clear HO349
                                   clear HO353
                                   clear HB
                                   clear h0_ h1_ h2_ h3_ h4_ h5_
                                   have HO339 := n0_
                                   have HO349 := n1_
                                   have HO353 := n2_
                                   have HO361 := n3_
                                   have HO364 := n4_
                                   have HB := n5_
                                   clear n0_ n1_ n2_ n3_ n4_ n5_
                                   have hHeld := trivial
                                   refine norm_ (a' := ?_) ?_ ?_
                                   rotate_left
                                   ·simp only [putAll, Act.put, List.setIfInBounds_toArray, List.set_cons_zero, List.set_cons_succ]
                                    rfl
                                   refine one_ (i := 5) (N := some 72) #[true, true, true, true, true, true, false, false, false, false, false, false, false] rfl rfl (one_of HT_.out (by kernel_rfl)) (by decide) (fun K hK => ?_)
                                   refine Kd.R_lit_step Kd.string _ 9 ?hg (N := 72) ?hd (xs := ([strOfNums y362] : List ByteArray)) (inner := [.string (strOfNums y362)]) (ok := fun _ => True) (okp := fun _ => True) ?hr ?hp (fun _ hk => hk) trivial (Below.refl _ _) (Nat.le_refl _) (by simp) ?_; (case hd => rfl); (case hg => rfl); (case hr => first | (go_simp; done) | (go_simp; rfl)); (case hp => exact (Reps.one (show Kd.M Kd.string _ _ _ (strOfNums y362) [.string (strOfNums y362)] from rfl) (Reps.none _ _)))
                                   intro v366 w67 ho68 hb hg_ hnew_
                                   clear hg_ hnew_
                                   (first | rw [← Ny365.out] at ho68 | (simp only [Int.reduceToNat] at ho68; rw [← Ny365.out] at ho68))
                                   have n0_ := Aside0.mk (Kd.R_below (by (with_reducible repeat (first | apply Kd.R_alloc | apply Kd.R_drewN | apply Kd.R_drew)); exact HO339.out) hb)
                                   have n1_ := Aside0.mk (Kd.R_elder' (by (with_reducible repeat (first | apply Kd.R_alloc | apply Kd.R_drewN | apply Kd.R_drew)); exact HO349.out) (Kd.R_base ho68) hb)
                                   have n2_ := Aside0.mk (Kd.R_elder' (by (with_reducible repeat (first | apply Kd.R_alloc | apply Kd.R_drewN | apply Kd.R_drew)); exact HO353.out) (Kd.R_base ho68) hb)
                                   have n3_ := Aside0.mk (Kd.R_elder' (by (with_reducible repeat (first | apply Kd.R_alloc | apply Kd.R_drewN | apply Kd.R_drew)); exact HO361.out) (Kd.R_base ho68) hb)
                                   have n4_ := Aside0.mk (Kd.R_below (by (with_reducible repeat (first | apply Kd.R_alloc | apply Kd.R_drewN | apply Kd.R_drew)); exact HO364.out) hb)
                                   have n5_ := Aside0.mk (Kd.R_lower (Kd.R_new' (Kd.R_new' (Kd.R_new' ho68 (Kd.R_lt (by (with_reducible repeat (first | apply Kd.R_alloc | apply Kd.R_drewN | apply Kd.R_drew)); exact HO349.out))) (Kd.R_lt (by (with_reducible repeat (first | apply Kd.R_alloc | apply Kd.R_drewN | apply Kd.R_drew)); exact HO353.out))) (Kd.R_lt (by (with_reducible repeat (first | apply Kd.R_alloc | apply Kd.R_drewN | apply Kd.R_drew)); exact HO361.out))) (below_size (by repeat (first | (with_reducible first | exact HB.out | apply below_alloc | apply pw_below_drewN | apply below_drew1) | exact HB.out))))
                                   have n6_ := Aside0.mk (below_step (by repeat (first | (with_reducible first | exact HB.out | apply below_alloc | apply pw_below_drewN | apply below_drew1) | exact HB.out)) hb)
                                   clear HO339
                                   clear HO349
                                   clear HO353
                                   clear HO361
                                   clear HO364
                                   clear HB
                                   have HO339 := n0_
                                   have HO349 := n1_
                                   have HO353 := n2_
                                   have HO361 := n3_
                                   have HO364 := n4_
                                   have HO367 := n5_
                                   have HB := n6_
                                   clear n0_ n1_ n2_ n3_ n4_ n5_ n6_
                                   clear hb ho68
                                   refine hK.out _ _ trivial (fun hHeld => ?_)
                                   clear hK K
                                   refine norm_ (a' := ?_) ?_ ?_
                                   rotate_left
                                   ·show Act.put _ (some 72) _ = _
                                    simp only [Act.put, List.setIfInBounds_toArray, List.set_cons_zero, List.set_cons_succ, i64_w, i32_w]
                                    rfl
                                   exact norm_ (by first | (simp only [putAll, Act.put, List.setIfInBounds_toArray, List.set_cons_zero, List.set_cons_succ]; done) | (simp only [putAll, Act.put, List.setIfInBounds_toArray, List.set_cons_zero, List.set_cons_succ]; rfl)) (hJ0_2_3_4_5 (v357, v360, v363, v366) _ ⟨(by (with_reducible repeat (first | apply Kd.R_alloc | apply Kd.R_drewN | apply Kd.R_drew)); exact HO339.out), (by (with_reducible repeat (first | apply Kd.R_alloc | apply Kd.R_drewN | apply Kd.R_drew)); exact Kd.R_mono HO349.out (fun _ hk => ⟨hk.1.1, ⟨hk.1.2, hk.2⟩⟩)), (by (with_reducible repeat (first | apply Kd.R_alloc | apply Kd.R_drewN | apply Kd.R_drew)); exact Kd.R_mono HO353.out (fun _ hk => ⟨hk.1.1, ⟨hk.1.2, hk.2⟩⟩)), (by (with_reducible repeat (first | apply Kd.R_alloc | apply Kd.R_drewN | apply Kd.R_drew)); exact Kd.R_mono HO361.out (fun _ hk => ⟨hk.1.1, ⟨hk.1.2, hk.2⟩⟩)), (by (with_reducible repeat (first | apply Kd.R_alloc | apply Kd.R_drewN | apply Kd.R_drew)); exact HO364.out), (by (with_reducible repeat (first | apply Kd.R_alloc | apply Kd.R_drewN | apply Kd.R_drew)); exact Kd.R_mono HO367.out (fun _ hk => ⟨hk.1.1.2, ⟨hk.1.2, hk.2⟩⟩)), (by repeat (first | (with_reducible first | exact HB.out | apply below_alloc | apply pw_below_drewN | apply below_drew1) | exact HB.out))⟩)
                                 rintro ⟨v357, v360, v363, v366⟩ w68 ⟨h0_, h1_, h2_, h3_, h4_, h5_, h6_⟩
                                 have n0_ : Aside0 (Kd.R (Kd.int .u8) 5 w68 w.heap.size (fun k_ => some k_ ≠ (v363 : Value).ownBlock) v338 y337) := ⟨h0_⟩
                                 have n1_ : Aside0 (Kd.R Kd.string 9 w68 w.heap.size (fun k_ => some k_ ≠ (v352 : Value).ownBlock ∧ some k_ ≠ (v360 : Value).ownBlock ∧ some k_ ≠ (v366 : Value).ownBlock) (.slice Ao57 t346.length co57) t346) := ⟨h1_⟩
                                 have n2_ : Aside0 (Kd.R Kd.string 9 w68 w.heap.size (fun k_ => some k_ ≠ (.slice Ao57 t346.length co57 : Value).ownBlock ∧ some k_ ≠ (v360 : Value).ownBlock ∧ some k_ ≠ (v366 : Value).ownBlock) v352 t350) := ⟨h2_⟩
                                 have n3_ : Aside0 (Kd.R Kd.string 9 w68 w.heap.size (fun k_ => some k_ ≠ (.slice Ao57 t346.length co57 : Value).ownBlock ∧ some k_ ≠ (v352 : Value).ownBlock ∧ some k_ ≠ (v366 : Value).ownBlock) v360 y359) := ⟨h3_⟩
                                 have n4_ : Aside0 (Kd.R (Kd.int .u8) 5 w68 w.heap.size (fun k_ => some k_ ≠ (v338 : Value).ownBlock) v363 y362) := ⟨h4_⟩
                                 have n5_ : Aside0 (Kd.R Kd.string 9 w68 w.heap.size (fun k_ => some k_ ≠ (.slice Ao57 t346.length co57 : Value).ownBlock ∧ some k_ ≠ (v352 : Value).ownBlock ∧ some k_ ≠ (v360 : Value).ownBlock) v366 y365) := ⟨h5_⟩
                                 have n6_ : Aside0 (Below w.heap.size w w68) := ⟨h6_⟩
                                 clear HO339
                                 clear HO349
                                 clear HO353
                                 clear HB
                                 clear h0_ h1_ h2_ h3_ h4_ h5_ h6_
                                 have HO339 := n0_
                                 have HO349 := n1_
                                 have HO353 := n2_
                                 have HO361 := n3_
                                 have HO364 := n4_
                                 have HO367 := n5_
                                 have HB := n6_
                                 clear n0_ n1_ n2_ n3_ n4_ n5_ n6_
                                 have hHeld := trivial
                                 obtain ⟨Ao70, co70, eo70⟩ := Kd.R_slice HO367.out
                                 (first | subst eo70 | (injection eo70 with f1_ f2_ f3_; have f4_ := f1_.symm; have f5_ := f3_.symm; clear f1_ f2_ f3_; subst f4_; subst f5_))
                                 refine norm_ (a' := ?_) ?_ ?_
                                 rotate_left
                                 ·simp only [putAll, Act.put, List.setIfInBounds_toArray, List.set_cons_zero, List.set_cons_succ]
                                  rfl
                                 refine one_ (i := 6) (N := some 73) #[true, true, true, true, true, true, true, false, false, false, false, false, false] rfl rfl (one_of HT_.out (by kernel_rfl)) (by decide) (fun K hK => ?_)
                                 refine Kd.R_append_rows_step Kd.string (w0 := w) w.heap.size (by rfl) (.tmp 69) (.tmp 72) 41 9 (.string ⟨#[]⟩) 16 rfl Try.underlying41 info9 rfl (by decide) (by omega) v360 y359 y365 _ _ _ (fun k_ => some k_ ≠ (.slice Ao57 t346.length co57 : Value).ownBlock ∧ some k_ ≠ (v352 : Value).ownBlock ∧ some k_ ≠ (.slice Ao70 y365.length co70 : Value).ownBlock) (fun _ => False) rfl rfl ?aO ?aR (fun _ _ h => h) (fun _ h => h.elim) ?aF ?aB ?aS ?aL ?_
                                 (case aR => repeat (first | exact (Kd.R_reads' HO367.out).2.2 | (with_reducible refine Kd.C_alloc ?_ _) | (with_reducible refine Kd.C_drewN ?_ _) | (with_reducible refine Kd.C_drew ?_)))
                                 (case aB => exact (by repeat (first | (with_reducible first | exact HB.out | apply below_alloc | apply pw_below_drewN | apply below_drew1) | exact HB.out)))
                                 (case aF => exact (fun k_ hk => ⟨Kd.fresh' (Kd.R_lt (by (with_reducible repeat (first | apply Kd.R_alloc | apply Kd.R_drewN | apply Kd.R_drew)); exact HO349.out)) k_ hk, Kd.fresh' (Kd.R_lt (by (with_reducible repeat (first | apply Kd.R_alloc | apply Kd.R_drewN | apply Kd.R_drew)); exact HO353.out)) k_ hk, Kd.fresh' (Kd.R_lt (by (with_reducible repeat (first | apply Kd.R_alloc | apply Kd.R_drewN | apply Kd.R_drew)); exact HO367.out)) k_ hk⟩))
                                 (case aO => exact (by (with_reducible repeat (first | apply Kd.R_alloc | apply Kd.R_drewN | apply Kd.R_drew)); exact HO361.out))
                                 (case aS => exact (below_size (by repeat (first | (with_reducible first | exact HB.out | apply below_alloc | apply pw_below_drewN | apply below_drew1) | exact HB.out))))
                                 (case aL => have := LMc20.out; omega)
                                 intro v369 w69 ho hb hg hat
                                 rw [← Ny368.out] at ho
                                 have n0_ := Aside0.mk (Kd.R_over' (by (with_reducible repeat (first | apply Kd.R_alloc | apply Kd.R_drewN | apply Kd.R_drew)); exact HO339.out) (Kd.R_typed (by (with_reducible repeat (first | apply Kd.R_alloc | apply Kd.R_drewN | apply Kd.R_drew)); exact HO361.out)) (by decide) hg)
                                 have n1_ := Aside0.mk (Kd.R_after (ok := (fun k_ => some k_ ≠ (v352 : Value).ownBlock ∧ some k_ ≠ (.slice Ao70 y365.length co70 : Value).ownBlock)) (by (with_reducible repeat (first | apply Kd.R_alloc | apply Kd.R_drewN | apply Kd.R_drew)); exact Kd.R_mono HO349.out (fun _ hk => ⟨⟨hk.1, hk.2.2⟩, hk.2.1⟩)) hg hat)
                                 have n2_ := Aside0.mk (Kd.R_after (ok := (fun k_ => some k_ ≠ (.slice Ao57 t346.length co57 : Value).ownBlock ∧ some k_ ≠ (.slice Ao70 y365.length co70 : Value).ownBlock)) (by (with_reducible repeat (first | apply Kd.R_alloc | apply Kd.R_drewN | apply Kd.R_drew)); exact Kd.R_mono HO353.out (fun _ hk => ⟨⟨hk.1, hk.2.2⟩, hk.2.1⟩)) hg hat)
                                 have n3_ := Aside0.mk (Kd.R_over' (by (with_reducible repeat (first | apply Kd.R_alloc | apply Kd.R_drewN | apply Kd.R_drew)); exact HO364.out) (Kd.R_typed (by (with_reducible repeat (first | apply Kd.R_alloc | apply Kd.R_drewN | apply Kd.R_drew)); exact HO361.out)) (by decide) hg)
                                 have n4_ := Aside0.mk (Kd.R_after (ok := (fun k_ => some k_ ≠ (.slice Ao57 t346.length co57 : Value).ownBlock ∧ some k_ ≠ (v352 : Value).ownBlock)) (by (with_reducible repeat (first | apply Kd.R_alloc | apply Kd.R_drewN | apply Kd.R_drew)); exact Kd.R_mono HO367.out (fun _ hk => ⟨⟨hk.1, hk.2.1⟩, hk.2.2⟩)) hg hat)
                                 have n5_ := Aside0.mk (hb)
                                 have n6_ := Aside0.mk (ho)
                                 clear HO339
                                 clear HO349
                                 clear HO353
                                 clear HO364
                                 clear HO367
                                 clear HB
                                 clear HO361
                                 have HO339 := n0_
                                 have HO349 := n1_
                                 have HO353 := n2_
                                 have HO364 := n3_
                                 have HO367 := n4_
                                 have HB := n5_
                                 have HO370 := n6_
                                 clear n0_ n1_ n2_ n3_ n4_ n5_ n6_
                                 clear ho hb hg hat
                                 obtain ⟨Ao71, co71, eo71⟩ := Kd.R_slice HO370.out
                                 (first | subst eo71 | (injection eo71 with f1_ f2_ f3_; have f4_ := f1_.symm; have f5_ := f3_.symm; clear f1_ f2_ f3_; subst f4_; subst f5_))
                                 refine hK.out _ _ trivial (fun hHeld => ?_)
                                 clear hK K
                                 refine norm_ (a' := ?_) ?_ ?_
                                 rotate_left
                                 ·show Act.put _ (some 73) _ = _
                                  simp only [Act.put, List.setIfInBounds_toArray, List.set_cons_zero, List.set_cons_succ, i64_w, i32_w]
                                  rfl
                                 refine one_ (i := 7) (N := some 74) #[true, true, true, true, true, true, true, true, false, false, false, false, false] rfl rfl (one_of HT_.out (by kernel_rfl)) (by decide) (fun K hK => ?_)
                                 refine goes_ Try.func32 (by kernel_rfl) rfl #[.slice Ao71 y368.length co71, .int .i64 64] (by rfl) rfl rfl (by (try simp only [List.map_toArray, List.map_cons, List.map_nil]); first | done | rfl | (simp only [List.length_drop, List.length_take]; rfl)) ?_
                                 with_reducible refine (reed_Message.calls k _ _ y368 64 t371 t372 _ ?side1 ?side2 A21.out).mono ?_
                                 (case side1 => repeat (first | exact (Kd.R_reads' HO370.out).2.2 | (with_reducible refine Kd.C_alloc ?_ _) | (with_reducible refine Kd.C_drewN ?_ _) | (with_reducible refine Kd.C_drew ?_)))
                                 (case side2 => exact (Kd.R_reads' HO370.out).2.1)
                                 rintro e w72 ⟨rfl, hb⟩
                                 refine ⟨_, rfl, ?_⟩
                                 have n0_ := Aside0.mk (Kd.R_below (by (with_reducible repeat (first | apply Kd.R_alloc | apply Kd.R_drewN | apply Kd.R_drew)); exact HO339.out) hb)
                                 have n1_ := Aside0.mk (Kd.R_below (by (with_reducible repeat (first | apply Kd.R_alloc | apply Kd.R_drewN | apply Kd.R_drew)); exact HO349.out) hb)
                                 have n2_ := Aside0.mk (Kd.R_below (by (with_reducible repeat (first | apply Kd.R_alloc | apply Kd.R_drewN | apply Kd.R_drew)); exact HO353.out) hb)
                                 have n3_ := Aside0.mk (Kd.R_below (by (with_reducible repeat (first | apply Kd.R_alloc | apply Kd.R_drewN | apply Kd.R_drew)); exact HO364.out) hb)
                                 have n4_ := Aside0.mk (Kd.R_below (by (with_reducible repeat (first | apply Kd.R_alloc | apply Kd.R_drewN | apply Kd.R_drew)); exact HO367.out) hb)
                                 have n5_ := Aside0.mk (Kd.R_below (by (with_reducible repeat (first | apply Kd.R_alloc | apply Kd.R_drewN | apply Kd.R_drew)); exact HO370.out) hb)
                                 have n6_ := Aside0.mk (below_step (by repeat (first | (with_reducible first | exact HB.out | apply below_alloc | apply pw_below_drewN | apply below_drew1) | exact HB.out)) hb)
                                 clear HO339
                                 clear HO349
                                 clear HO353
                                 clear HO364
                                 clear HO367
                                 clear HO370
                                 clear HB
                                 have HO339 := n0_
                                 have HO349 := n1_
                                 have HO353 := n2_
                                 have HO364 := n3_
                                 have HO367 := n4_
                                 have HO370 := n5_
                                 have HB := n6_
                                 clear n0_ n1_ n2_ n3_ n4_ n5_ n6_
                                 (try clear hb)
                                 (try clear hb2)
                                 (try clear hk)
                                 (try clear hi)
                                 refine hK.out _ _ trivial (fun hHeld => ?_)
                                 clear hK K
                                 refine norm_ (a' := ?_) ?_ ?_
                                 rotate_left
                                 ·show Act.put _ (some 74) _ = _
                                  simp only [Act.put, List.setIfInBounds_toArray, List.set_cons_zero, List.set_cons_succ, i64_w, i32_w]
                                  rfl
                                 refine pure_ (i := 8) (N := some 66) (v := ?_) (a' := ?_) #[true, true, true, true, true, true, true, true, true, false, false, false, false] rfl rfl (any_of HT_.out (by kernel_rfl)) (fun _ _ _ h => h) (Or.inl ⟨by rfl, ?_⟩) ?_ ?_
                                 rotate_left
                                 ·intro w'
                                  go_simp
                                  with_reducible rfl
                                 rotate_left
                                 ·simp only [Act.put, List.setIfInBounds_toArray, List.set_cons_zero, List.set_cons_succ, i64_w, i32_w]
                                  rfl
                                 refine pure_ (i := 9) (N := some 75) (v := ?_) (a' := ?_) #[true, true, true, true, true, true, true, true, true, true, false, false, false] rfl rfl (any_of HT_.out (by kernel_rfl)) (fun _ _ _ h => h) (Or.inl ⟨by rfl, ?_⟩) ?_ ?_
                                 rotate_left
                                 ·intro w'
                                  go_simp
                                  with_reducible rfl
                                 rotate_left
                                 ·simp only [Act.put, List.setIfInBounds_toArray, List.set_cons_zero, List.set_cons_succ, i64_w, i32_w]
                                  rfl
                                 refine pure_ (i := 10) (N := some 76) (v := ?_) (a' := ?_) #[true, true, true, true, true, true, true, true, true, true, true, false, false] rfl rfl (any_of HT_.out (by kernel_rfl)) (fun _ _ _ h => h) (Or.inl ⟨by rfl, ?_⟩) ?_ ?_
                                 rotate_left
                                 ·intro w'
                                  go_simp
                                  with_reducible rfl
                                 rotate_left
                                 ·simp only [Act.put, List.setIfInBounds_toArray, List.set_cons_zero, List.set_cons_succ, i64_w, i32_w]
                                  rfl
                                 refine pure_ (i := 11) (N := some 14) (v := ?_) (a' := ?_) #[true, true, true, true, true, true, true, true, true, true, true, true, false] rfl rfl (any_of HT_.out (by kernel_rfl)) (fun _ _ _ h => h) (Or.inl ⟨by rfl, ?_⟩) ?_ ?_
                                 rotate_left
                                 ·intro w'
                                  go_simp
                                  with_reducible rfl
                                 rotate_left
                                 ·simp only [Act.put, List.setIfInBounds_toArray, List.set_cons_zero, List.set_cons_succ, i64_w, i32_w]
                                  rfl
                                 refine pure_ (i := 12) (N := some 15) (v := ?_) (a' := ?_) #[true, true, true, true, true, true, true, true, true, true, true, true, true] rfl rfl (any_of HT_.out (by kernel_rfl)) (fun _ _ _ h => h) (Or.inl ⟨by rfl, ?_⟩) ?_ ?_
                                 rotate_left
                                 ·intro w'
                                  go_simp
                                  with_reducible rfl
                                 rotate_left
                                 ·simp only [Act.put, List.setIfInBounds_toArray, List.set_cons_zero, List.set_cons_succ, i64_w, i32_w]
                                  rfl
                                 refine done_ (done_of HT_.out (by kernel_rfl)) ?_
                                 try go_wp2_with (first | ((with_reducible refine gate_callee (f := 33) rfl ?_); refine goesL_ (some 78) rfl rfl Try.func33 (by kernel_rfl) rfl #[.int .i64 64] rfl (by (try simp only [List.map_toArray, List.map_cons, List.map_nil]); first | done | rfl | (simp only [List.length_drop, List.length_take]; rfl)) ?_; (with_reducible refine (reed_Generator.calls k 64 t373 t374 _ A22.out).mono ?_); rintro e w73 ⟨v375, rfl, ho0, hb⟩; refine ⟨_, rfl, ?_⟩; have n0_ := Aside0.mk (Kd.R_elder' (by (with_reducible repeat (first | apply Kd.R_alloc | apply Kd.R_drewN | apply Kd.R_drew)); exact HO339.out) (Kd.R_base ho0) hb); have n1_ := Aside0.mk (Kd.R_below (by (with_reducible repeat (first | apply Kd.R_alloc | apply Kd.R_drewN | apply Kd.R_drew)); exact HO349.out) hb); have n2_ := Aside0.mk (Kd.R_below (by (with_reducible repeat (first | apply Kd.R_alloc | apply Kd.R_drewN | apply Kd.R_drew)); exact HO353.out) hb); have n3_ := Aside0.mk (Kd.R_elder' (by (with_reducible repeat (first | apply Kd.R_alloc | apply Kd.R_drewN | apply Kd.R_drew)); exact HO364.out) (Kd.R_base ho0) hb); have n4_ := Aside0.mk (Kd.R_below (by (with_reducible repeat (first | apply Kd.R_alloc | apply Kd.R_drewN | apply Kd.R_drew)); exact HO367.out) hb); have n5_ := Aside0.mk (Kd.R_below (by (with_reducible repeat (first | apply Kd.R_alloc | apply Kd.R_drewN | apply Kd.R_drew)); exact HO370.out) hb); have n6_ := Aside0.mk (Kd.R_lower (Kd.R_new' (Kd.R_new' ho0 (Kd.R_lt (by (with_reducible repeat (first | apply Kd.R_alloc | apply Kd.R_drewN | apply Kd.R_drew)); exact HO339.out))) (Kd.R_lt (by (with_reducible repeat (first | apply Kd.R_alloc | apply Kd.R_drewN | apply Kd.R_drew)); exact HO364.out))) (below_size (by repeat (first | (with_reducible first | exact HB.out | apply below_alloc | apply pw_below_drewN | apply below_drew1) | exact HB.out)))); have n7_ := Aside0.mk (below_step (by repeat (first | (with_reducible first | exact HB.out | apply below_alloc | apply pw_below_drewN | apply below_drew1) | exact HB.out)) hb); clear HO339; clear HO349; clear HO353; clear HO364; clear HO367; clear HO370; clear HB; have HO339 := n0_; have HO349 := n1_; have HO353 := n2_; have HO364 := n3_; have HO367 := n4_; have HO370 := n5_; have HO376 := n6_; have HB := n7_; clear n0_ n1_ n2_ n3_ n4_ n5_ n6_ n7_; (try clear hb); (try clear hb2); (try clear hk); (try clear hi); (try clear ho0); obtain ⟨Ao74, co74, eo74⟩ := Kd.R_slice HO376.out; subst eo74; have p377 : 0 ≤ (64 : Int) := (by omega); have q377 : 64 < (t373.length : Int) := of_decide_eq_true (by first | (with_reducible assumption) | assumption); obtain ⟨ad377, e377, hx377_0⟩ := Kd.at_int (Kd.R_reads' HO376.out).2.2 64 p377 q377; cases e377; (try simp only [show (64 : Int).toNat = 64 from rfl, Nat.reduceMul, Nat.reduceEqDiff, Go.Addr.add, ↓reduceIte] at hx377_0); have qi377 : (64 < t373.length) = True := eq_true (by omega); (try rw [show ((64 : Int)).toNat = 64 from rfl] at hx377_0); replace p377 := eq_true p377; replace q377 := eq_true q377) | (go_at_call 34; (with_reducible refine (reed_Check.calls 255 64 t378 _ A39.out).mono ?_); rintro e w' ⟨rfl, ⟨nd, rfl⟩⟩) | (go_at_call 34; (with_reducible refine (reed_Check.calls 256 64 t379 _ A41.out).mono ?_); rintro e w' ⟨rfl, ⟨nd, rfl⟩⟩) | (go_at_call 34; (with_reducible refine (reed_Check.calls 65 64 t380 _ A43.out).mono ?_); rintro e w' ⟨rfl, ⟨nd, rfl⟩⟩) | (go_at_call 34; (with_reducible refine (reed_Check.calls 64 64 t381 _ A45.out).mono ?_); rintro e w' ⟨rfl, ⟨nd, rfl⟩⟩) | (go_at_call 34; (with_reducible refine (reed_Check.calls 9 3 t382 _ A47.out).mono ?_); rintro e w' ⟨rfl, ⟨nd, rfl⟩⟩))
                                 go_ret
                                 exact ⟨by first | rfl | (simp [errW_none, errW_some] <;> rfl) | (simp [*, errW_none, errW_some] <;> rfl), by repeat (first | (with_reducible first | exact HB.out | apply below_alloc | apply pw_below_drewN | apply below_drew1) | exact HB.out)⟩
                               ·rw [if_neg c46] at H
                                have c46b0 : (t381 == 1) = false := beq_eq_false_iff_ne.mpr c46
                                have c46b1 : (t381 != 1) = true := bne_iff_ne.mpr c46
                                as_aux_lemma =>
                                 exact absurd ((Option.some.inj H).trans HQ_.out) (by decide)
                              ·rw [if_neg c44] at H
                               have c44b0 : (t380 == 0) = false := beq_eq_false_iff_ne.mpr c44
                               have c44b1 : (t380 != 0) = true := bne_iff_ne.mpr c44
                               as_aux_lemma =>
                                exact absurd ((Option.some.inj H).trans HQ_.out) (by decide)
                             ·rw [if_neg c42] at H
                              have c42b0 : (t379 == 1) = false := beq_eq_false_iff_ne.mpr c42
                              have c42b1 : (t379 != 1) = true := bne_iff_ne.mpr c42
                              as_aux_lemma =>
                               exact absurd ((Option.some.inj H).trans HQ_.out) (by decide)
                            ·rw [if_neg c40] at H
                             have c40b0 : (t378 == 0) = false := beq_eq_false_iff_ne.mpr c40
                             have c40b1 : (t378 != 0) = true := bne_iff_ne.mpr c40
                             as_aux_lemma =>
                              exact absurd ((Option.some.inj H).trans HQ_.out) (by decide)
                           ·rw [if_neg c38] at H
                            have c38b0 : ((rd t373 64) == 1) = false := beq_eq_false_iff_ne.mpr c38
                            have c38b1 : ((rd t373 64) != 1) = true := bne_iff_ne.mpr c38
                            as_aux_lemma =>
                             exact absurd ((Option.some.inj H).trans HQ_.out) (by decide)
                          ·rw [if_neg c37] at H
                           exact absurd H (by simp)
                         ·rw [if_neg c36] at H
                          have c36b0 : ((t373.length : Int) == 65) = false := beq_eq_false_iff_ne.mpr c36
                          have c36b1 : ((t373.length : Int) != 65) = true := bne_iff_ne.mpr c36
                          as_aux_lemma =>
                           exact absurd ((Option.some.inj H).trans HQ_.out) (by decide)
                        ·rw [if_neg c35] at H
                         have c35b0 : (t354.toList == ((strOfNums y337).extract 0 32768).toList) = false := beq_eq_false_iff_ne.mpr c35
                         have c35b1 : (t354.toList != ((strOfNums y337).extract 0 32768).toList) = true := bne_iff_ne.mpr c35
                         as_aux_lemma =>
                          exact absurd ((Option.some.inj H).trans HQ_.out) (by decide)
                       ·rw [if_neg c32] at H
                        have c32b0 : ((t346.length : Int) == 172) = false := beq_eq_false_iff_ne.mpr c32
                        have c32b1 : ((t346.length : Int) != 172) = true := bne_iff_ne.mpr c32
                        as_aux_lemma =>
                         exact absurd ((Option.some.inj H).trans HQ_.out) (by decide)
                      ·rw [if_neg c31] at H
                       have c31b0 : ((t340.size : Int) == 255) = false := beq_eq_false_iff_ne.mpr c31
                       have c31b1 : ((t340.size : Int) != 255) = true := bne_iff_ne.mpr c31
                       as_aux_lemma =>
                        exact absurd ((Option.some.inj H).trans HQ_.out) (by decide)
                     ·rw [if_neg c30] at H
                      have c30b0 : (t374 == 0) = false := beq_eq_false_iff_ne.mpr c30
                      have c30b1 : (t374 != 0) = true := bne_iff_ne.mpr c30
                      as_aux_lemma =>
                       exact absurd ((Option.some.inj H).trans HQ_.out) (by decide)
                    ·rw [if_neg c29] at H
                     have c29b0 : (t372 == 1) = false := beq_eq_false_iff_ne.mpr c29
                     have c29b1 : (t372 != 1) = true := bne_iff_ne.mpr c29
                     as_aux_lemma =>
                      exact absurd ((Option.some.inj H).trans HQ_.out) (by decide)
                   ·rw [if_neg c28] at H
                    have c28b0 : (t355 == 0) = false := beq_eq_false_iff_ne.mpr c28
                    have c28b1 : (t355 != 0) = true := bne_iff_ne.mpr c28
                    as_aux_lemma =>
                     exact absurd ((Option.some.inj H).trans HQ_.out) (by decide)
                  ·rw [if_neg c27] at H
                   have c27b0 : (t351 == 1) = false := beq_eq_false_iff_ne.mpr c27
                   have c27b1 : (t351 != 1) = true := bne_iff_ne.mpr c27
                   as_aux_lemma =>
                    exact absurd ((Option.some.inj H).trans HQ_.out) (by decide)
                 ·rw [if_neg c26] at H
                  have c26b0 : (t347 == 0) = false := beq_eq_false_iff_ne.mpr c26
                  have c26b1 : (t347 != 0) = true := bne_iff_ne.mpr c26
                  as_aux_lemma =>
                   exact absurd ((Option.some.inj H).trans HQ_.out) (by decide)
                ·rw [if_neg c25] at H
                 have c25b0 : (t345 == 1) = false := beq_eq_false_iff_ne.mpr c25
                 have c25b1 : (t345 != 1) = true := bne_iff_ne.mpr c25
                 as_aux_lemma =>
                  exact absurd ((Option.some.inj H).trans HQ_.out) (by decide)
               ·rw [if_neg c24] at H
                have c24b0 : (t343 == 1) = false := beq_eq_false_iff_ne.mpr c24
                have c24b1 : (t343 != 1) = true := bne_iff_ne.mpr c24
                as_aux_lemma =>
                 exact absurd ((Option.some.inj H).trans HQ_.out) (by decide)
              ·rw [if_neg c23] at H
               have c23b0 : (t341 == 0) = false := beq_eq_false_iff_ne.mpr c23
               have c23b1 : (t341 != 0) = true := bne_iff_ne.mpr c23
               as_aux_lemma =>
                exact absurd ((Option.some.inj H).trans HQ_.out) (by decide)
             ·rw [if_neg c20] at H
              exact absurd H (by simp)
            ·rw [if_neg c19] at H
             exact absurd H (by simp)
           ·rw [if_neg c18] at H
            exact absurd H (by simp)
          ·rw [if_neg c14] at H
           exact absurd H (by simp)
         ·rw [if_neg c13] at H
          exact absurd H (by simp)
        ·rw [if_neg c11] at H
         exact absurd H (by simp)
       ·rw [if_neg c10] at H
        exact absurd H (by simp)
      ·rw [if_neg c8] at H
       exact absurd H (by simp)
     ·rw [if_neg c7] at H
      exact absurd H (by simp)
    ·rw [if_neg c5] at H
     exact absurd H (by simp)
   ·rw [if_neg c4] at H
    exact absurd H (by simp)
  ·rw [if_neg c3] at H
   exact absurd H (by simp)
 ·replace c2 := Bool.eq_false_iff.mpr c2
  subst c2
  have H1 : (some false) = some r := by rw [if_neg (show ¬ (false = true) by decide)] at H; exact H
  clear H
  have H := H1
  clear H1
  as_aux_lemma =>
   exact absurd ((Option.some.inj H).trans HQ_.out) (by decide)

theorem foghornlaw19_ReedNames.walk (P : foghornlaw19_ReedNames.Pure)  (w : World)  :
  Calls Try.prog 7 #[] w fun e w' => e = .returned (.bool true) ∧ Below w.heap.size w w' := by
 obtain ⟨k, h⟩ := P  
 refine (foghornlaw19_ReedNames.calls k  true w h rfl).mono ?_
 rintro e w' ⟨rfl, hd⟩
 exact ⟨rfl, hd⟩

end Go.Proofs.Ytncoakokdajibaa.Q
