import Derived.Test.YtncoakokdajibaaMendOverK0
import Derived.Test.YtncoakokdajibaaMendOverF1
import Derived.Test.YtncoakokdajibaaMendOverQ1
import Derived.Test.YtncoakokdajibaaMendOverQ4
import Derived.Test.YtncoakokdajibaaMendOverQ5
import Derived.Test.YtncoakokdajibaaMendOverQ6
-- Printed by myprint.py (ours) over the kit's printer, out of the translation.
namespace Go.Proofs.Ytncoakokdajibaa.Q
open Go.RowKit Go.Proofs.YtncoakokdajibaaW.PrintWords Go.Proofs.YtncoakokdajibaaW.PrintLast Go.Proofs.YtncoakokdajibaaW.PrintMore
attribute [local go_sem] ArrW.ptrOf_slice unary_neg_float unary_neg_complex run_store_float run_store_complex max2_int min2_int max_two min_two max_three min_three max_four min_four   -- for this text's walks alone
set_option linter.unusedVariables false
set_option linter.unusedSimpArgs false
--WALK
theorem foghornlaw20_MendOver.j8_no : ∀ (k : Nat) (y0 : ByteArray) (y1 : ByteArray) (y2 : Int) (y4 : ByteArray) (y5 : List Int) (y6 : List Int) (y7 : ByteArray) (y8 : List Int) (y9 : List Int) (y10 : ByteArray) (y11 : List Int) (y12 : List Int), foghornlaw20_MendOver.j8 k y0 y1 y2 true y4 y5 y6 y7 y8 y9 y10 y11 y12 ≠ some true := by
  intro k y0 y1 y2 y4 y5 y6 y7 y8 y9 y10 y11 y12 h
  cases k with
  | zero => exact absurd h (by simp [foghornlaw20_MendOver.j8])
  | succ k =>
    rw [foghornlaw20_MendOver.j8, if_pos rfl] at h
    exact absurd (Option.some.inj h) (by decide)
def Dq_ (a b : Nat) : Array Bool := (List.replicate a true ++ List.replicate b false).toArray
def Dn0_ : Array Bool := Dq_ 1 11
def Dn1_ : Array Bool := Dq_ 2 10
def Dn2_ : Array Bool := Dq_ 3 9
def Dn3_ : Array Bool := Dq_ 4 8
def Dn4_ : Array Bool := Dq_ 5 7
def Dn5_ : Array Bool := (List.replicate 5 true ++ List.replicate 1 false ++ List.replicate 1 true ++ List.replicate 5 false).toArray
def Dn6_ : Array Bool := (List.replicate 5 true ++ List.replicate 1 false ++ List.replicate 2 true ++ List.replicate 4 false).toArray
def Dn7_ : Array Bool := Dq_ 8 4
def Dn8_ : Array Bool := Dq_ 9 3
def Dn9_ : Array Bool := Dq_ 10 2
def Dn10_ : Array Bool := Dq_ 11 1
def Dn11_ : Array Bool := Dq_ 1 67
def Dn12_ : Array Bool := Dq_ 2 66
def Dn13_ : Array Bool := Dq_ 3 65
def Dn14_ : Array Bool := Dq_ 4 64
def Dn15_ : Array Bool := Dq_ 5 63
def Dn16_ : Array Bool := Dq_ 6 62
def Dn17_ : Array Bool := Dq_ 7 61
def Dn18_ : Array Bool := Dq_ 8 60
def Dn19_ : Array Bool := Dq_ 9 59
def Dn20_ : Array Bool := Dq_ 10 58
def Dn21_ : Array Bool := Dq_ 11 57
def Dn22_ : Array Bool := Dq_ 12 56
def Dn23_ : Array Bool := Dq_ 13 55
def Dn24_ : Array Bool := Dq_ 14 54
def Dn25_ : Array Bool := Dq_ 15 53
def Dn26_ : Array Bool := Dq_ 16 52
def Dn27_ : Array Bool := Dq_ 17 51
def Dn28_ : Array Bool := Dq_ 18 50
def Dn29_ : Array Bool := Dq_ 19 49
def Dn30_ : Array Bool := (List.replicate 19 true ++ List.replicate 1 false ++ List.replicate 1 true ++ List.replicate 47 false).toArray
def Dn31_ : Array Bool := Dq_ 21 47
def Dn32_ : Array Bool := Dq_ 22 46
def Dn33_ : Array Bool := Dq_ 23 45
def Dn34_ : Array Bool := Dq_ 24 44
def Dn35_ : Array Bool := Dq_ 25 43
def Dn36_ : Array Bool := Dq_ 26 42
def Dn37_ : Array Bool := Dq_ 27 41
def Dn38_ : Array Bool := Dq_ 28 40
def Dn39_ : Array Bool := (List.replicate 28 true ++ List.replicate 1 false ++ List.replicate 1 true ++ List.replicate 38 false).toArray
def Dn40_ : Array Bool := Dq_ 30 38
def Dn41_ : Array Bool := Dq_ 31 37
def Dn42_ : Array Bool := Dq_ 32 36
def Dn43_ : Array Bool := Dq_ 33 35
def Dn44_ : Array Bool := Dq_ 34 34
def Dn45_ : Array Bool := Dq_ 35 33
def Dn46_ : Array Bool := Dq_ 36 32
def Dn47_ : Array Bool := Dq_ 37 31
def Dn48_ : Array Bool := (List.replicate 37 true ++ List.replicate 1 false ++ List.replicate 1 true ++ List.replicate 29 false).toArray
def Dn49_ : Array Bool := Dq_ 39 29
def Dn50_ : Array Bool := Dq_ 40 28
def Dn51_ : Array Bool := Dq_ 41 27
def Dn52_ : Array Bool := Dq_ 42 26
def Dn53_ : Array Bool := Dq_ 43 25
def Dn54_ : Array Bool := Dq_ 44 24
def Dn55_ : Array Bool := Dq_ 45 23
def Dn56_ : Array Bool := (List.replicate 45 true ++ List.replicate 1 false ++ List.replicate 1 true ++ List.replicate 21 false).toArray
def Dn57_ : Array Bool := Dq_ 47 21
def Dn58_ : Array Bool := Dq_ 48 20
def Dn59_ : Array Bool := Dq_ 49 19
def Dn60_ : Array Bool := Dq_ 50 18
def Dn61_ : Array Bool := Dq_ 51 17
def Dn62_ : Array Bool := Dq_ 52 16
def Dn63_ : Array Bool := Dq_ 53 15
def Dn64_ : Array Bool := Dq_ 54 14
def Dn65_ : Array Bool := Dq_ 55 13
def Dn66_ : Array Bool := Dq_ 56 12
def Dn67_ : Array Bool := Dq_ 57 11
def Dn68_ : Array Bool := Dq_ 58 10
def Dn69_ : Array Bool := Dq_ 59 9
def Dn70_ : Array Bool := Dq_ 60 8
def Dn71_ : Array Bool := Dq_ 61 7
def Dn72_ : Array Bool := Dq_ 62 6
def Dn73_ : Array Bool := Dq_ 63 5
def Dn74_ : Array Bool := Dq_ 64 4
def Dn75_ : Array Bool := Dq_ 65 3
def Dn76_ : Array Bool := Dq_ 66 2
def Dn77_ : Array Bool := Dq_ 67 1
def Dn78_ : Array Bool := (List.replicate 68 true).toArray
def Dn79_ : Array Bool := Dq_ 1 12
def Dn80_ : Array Bool := (List.replicate 1 true ++ List.replicate 1 false ++ List.replicate 1 true ++ List.replicate 10 false).toArray
def Dn81_ : Array Bool := (List.replicate 1 true ++ List.replicate 1 false ++ List.replicate 1 true ++ List.replicate 1 false ++ List.replicate 1 true ++ List.replicate 8 false).toArray
def Dn82_ : Array Bool := (List.replicate 1 true ++ List.replicate 1 false ++ List.replicate 1 true ++ List.replicate 1 false ++ List.replicate 1 true ++ List.replicate 1 false ++ List.replicate 1 true ++ List.replicate 6 false).toArray
def Dn83_ : Array Bool := (List.replicate 1 true ++ List.replicate 1 false ++ List.replicate 1 true ++ List.replicate 1 false ++ List.replicate 1 true ++ List.replicate 1 false ++ List.replicate 1 true ++ List.replicate 1 false ++ List.replicate 1 true ++ List.replicate 4 false).toArray
def Dn84_ : Array Bool := (List.replicate 1 true ++ List.replicate 1 false ++ List.replicate 1 true ++ List.replicate 1 false ++ List.replicate 1 true ++ List.replicate 1 false ++ List.replicate 1 true ++ List.replicate 1 false ++ List.replicate 2 true ++ List.replicate 3 false).toArray
def Dn85_ : Array Bool := (List.replicate 3 true ++ List.replicate 1 false ++ List.replicate 1 true ++ List.replicate 1 false ++ List.replicate 1 true ++ List.replicate 1 false ++ List.replicate 2 true ++ List.replicate 3 false).toArray
def Dn86_ : Array Bool := (List.replicate 5 true ++ List.replicate 1 false ++ List.replicate 1 true ++ List.replicate 1 false ++ List.replicate 2 true ++ List.replicate 3 false).toArray
def Dn87_ : Array Bool := (List.replicate 7 true ++ List.replicate 1 false ++ List.replicate 2 true ++ List.replicate 3 false).toArray
def Dn88_ : Array Bool := Dq_ 10 3
def Dn89_ : Array Bool := Dq_ 11 2
def Dn90_ : Array Bool := Dq_ 12 1
def Dn91_ : Array Bool := (List.replicate 13 true).toArray
set_option maxHeartbeats 8000000 in
set_option maxRecDepth 100000 in
theorem foghornlaw20_MendOver.calls (k : Nat) (a0 : ByteArray) (a1 : ByteArray) (a2 : Int) (a3 : ByteArray) (A4 : Option Addr) (c4 : Nat) (l4 : List Int) (a5 : Int) (r : Bool) (w : World) (hr4 : Kd.C (Kd.int .i64) w A4 l4.length l4) (hc4 : l4.length ≤ c4) (h : foghornlaw20_MendOver.f k a0 a1 a2 a3 l4 a5 = some r) (hq_ : r = true) :
  Calls Try.prog 13 #[.string a0, .string a1, .int .i64 a2, .string a3, .slice A4 l4.length c4, .int .u8 a5] w fun e w' => e = .returned (.bool r) ∧ Below w.heap.size w w' := by
 have HQ_ := Aside0.mk hq_; clear hq_; have hu64 := Try.underlying64; have HR4 := Aside0.mk hr4; have HC4 := Aside0.mk hc4; clear hr4 hc4; have HB := Aside0.mk (Below.refl w.heap.size w)
 have H : ((foghornlaw20_awake.f k).bind fun t907 => (if t907 = true then ((foghornlaw20_sent.f k a0 a2).bind fun bt908 => (foghornlaw20_MendOver.l0 k a1 bt908.2 a3 l4 a5 bt908.1)) else (some false))) = some r := h
 clear h; replace H := Option.bind_eq_some_iff.mp H
 obtain ⟨t907, A70, H⟩ := H
 replace H : (if t907 = true then ((foghornlaw20_sent.f k a0 a2).bind fun bt908 => (foghornlaw20_MendOver.l0 k a1 bt908.2 a3 l4 a5 bt908.1)) else (some false)) = some r := H
 have A7 := Aside0.mk A70; clear A70
 by_cases c8 : t907 = true
 ·subst c8
  have H1 : ((foghornlaw20_sent.f k a0 a2).bind fun bt908 => (foghornlaw20_MendOver.l0 k a1 bt908.2 a3 l4 a5 bt908.1)) = some r := by rw [if_pos rfl] at H; exact H
  clear H; have H := H1; clear H1; replace H := Option.bind_eq_some_iff.mp H
  obtain ⟨⟨t908, t909⟩, A90, H⟩ := H
  replace H : (foghornlaw20_MendOver.l0 k a1 t909 a3 l4 a5 t908) = some r := H
  have A9 := Aside0.mk A90; clear A90; have HC10 := Aside0.mk H; clear H
  go_enter Try.func13, Try.ntmps13
  go_upto_block 0 with (first | ((with_reducible refine gate_callee (f := 49) rfl ?_); refine goesL_ (some 36) rfl rfl Try.func49 (by kernel_rfl) rfl #[] rfl (by (try simp only [List.map_toArray, List.map_cons, List.map_nil]); first | done | rfl | (simp only [List.length_drop, List.length_take]; rfl)) ?_; (with_reducible refine (foghornlaw20_awake.calls k  true _ A7.out).mono ?_); rintro e w11 ⟨rfl, hb⟩; refine ⟨_, rfl, ?_⟩; have n0_ := Aside0.mk (below_step (by repeat (first | (with_reducible first | exact HB.out | apply below_alloc | apply pw_below_drewN | apply below_drew1) | exact HB.out)) hb); clear HB; have HB := n0_; clear n0_; (try clear hb); (try clear hb2); (try clear hk); (try clear hi)) | ((with_reducible refine gate_callee (f := 50) rfl ?_); refine goesL_ (some 41) rfl rfl Try.func50 (by kernel_rfl) rfl #[.string a0, .int .i64 a2] rfl (by (try simp only [List.map_toArray, List.map_cons, List.map_nil]); first | done | rfl | (simp only [List.length_drop, List.length_take]; rfl)) ?_; (with_reducible refine (foghornlaw20_sent.calls k a0 a2 t908 t909 _ A9.out).mono ?_); rintro e w12 ⟨rfl, hb⟩; refine ⟨_, rfl, ?_⟩; have n0_ := Aside0.mk (below_step (by repeat (first | (with_reducible first | exact HB.out | apply below_alloc | apply pw_below_drewN | apply below_drew1) | exact HB.out)) hb); clear HB; have HB := n0_; clear n0_; (try clear hb); (try clear hb2); (try clear hk); (try clear hi)))
  (try simp only [Act.put, List.setIfInBounds_toArray, List.set_cons_zero, List.set_cons_succ])
  go_cut [3] (fun v3 wc => ∃ (kq : Nat) (x3_9 : ByteArray), v3 = .string x3_9 ∧ Aside0 (foghornlaw20_MendOver.j1 kq a1 t909 x3_9 l4 a5 t908 = some r) ∧ Aside0 (kq ≤ k) ∧ Aside0 (Below w.heap.size w wc))
  case first =>
   have H := HC10.out; clear HC10
   have H' := Aside0.mk H
   clear H
   go_wp2
   go_loopg [3] k (fun kq v3 w' => ∃ (x3_1 : ByteArray), v3 = .string x3_1 ∧ Aside0 (foghornlaw20_MendOver.l0 kq a1 t909 x3_1 l4 a5 t908 = some r) ∧ Aside0 (kq ≤ k) ∧ Aside0 (Below w.heap.size w w'))
   case atStart => exact ⟨(a3), (by first | rfl | (simp; done) | (simp [*]; done)), H', ⟨Nat.le_refl _⟩, ⟨by repeat (first | (with_reducible first | exact HB.out | apply below_alloc | apply pw_below_drewN | apply below_drew1) | exact HB.out)⟩⟩
   case round =>
    clear H'; (try clear c1); (try clear p2); (try clear c4); (try clear c5); (try clear c8)
    obtain ⟨x3_1, rfl, HA, HK1, HB⟩ := hrel
    cases gk with
    | zero => exact absurd HA.out (by simp [foghornlaw20_MendOver.l0])
    | succ k1 =>
     have H := HA.out; clear HA
     simp only [foghornlaw20_MendOver.l0] at H
     by_cases c13 : x3_1.toList = ([] : List UInt8)
     ·rw [if_pos c13] at H
      have c13b0 : (x3_1.toList == ([] : List UInt8)) = true := beq_iff_eq.mpr c13
      have c13e : x3_1.toList.isEmpty = true := List.isEmpty_iff.2 c13
      have c13b1 : (x3_1.toList != ([] : List UInt8)) = false := bne_eq_false_iff_eq.mpr c13
      clear c13
      (first | rw [c13b0] | rw [c13e] | (simp only [i64_w, i32_w]; rw [c13b0]) | skip)
      as_aux_lemma =>
       have H' := Aside0.mk H
       clear H
       go_wp2
       go_meet
       case rel => exact ⟨_, (x3_1), (by first | rfl | (simp; done) | (simp [*]; done)), H', ⟨by have := HK1.out; first | omega | exact Nat.le_refl _⟩, ⟨by repeat (first | (with_reducible first | exact HB.out | apply below_alloc | apply pw_below_drewN | apply below_drew1) | exact HB.out)⟩⟩
     ·rw [if_neg c13] at H
      have c13b0 : (x3_1.toList == ([] : List UInt8)) = false := beq_eq_false_iff_ne.mpr c13
      have c13e : x3_1.toList.isEmpty = false := Bool.eq_false_iff.2 (fun h_ => c13 (List.isEmpty_iff.1 h_))
      have c13b1 : (x3_1.toList != ([] : List UInt8)) = true := bne_iff_ne.mpr c13
      (first | rw [c13b0] | rw [c13e] | (simp only [i64_w, i32_w]; rw [c13b0]) | skip)
      by_cases c14 : (x3_1.size : Int) < (t908.size : Int)
      ·rw [if_pos c14] at H
       have c14b0 : decide ((x3_1.size : Int) < (t908.size : Int)) = true := decide_eq_true c14
       have c14b1 : decide (x3_1.size < t908.size) = true := decide_eq_true (Int.ofNat_lt.mp c14)
       clear c14
       by_cases c15 : x3_1.size + x3_1.size ≤ 9223372036854775807
       ·rw [if_pos c15] at H
        have c15b0 := eq_true c15
        have c15b1 : decide (x3_1.size + x3_1.size ≤ 9223372036854775807) = true := decide_eq_true c15
        try have c15b2 : (9223372036854775807 < x3_1.size + x3_1.size) = False := eq_false (Nat.not_lt.2 c15)
        as_aux_lemma =>
         have H' := Aside0.mk H
         clear H
         go_wp2
         first | go_roundg k1 | (simp only [add_plain] at *; go_roundg k1)
         case measure => have := HK1.out; omega
         case rel => exact ⟨(x3_1 ++ x3_1), (by first | rfl | (simp; done) | (simp [*]; done)), H', ⟨by have := HK1.out; omega⟩, ⟨by repeat (first | (with_reducible first | exact HB.out | apply below_alloc | apply pw_below_drewN | apply below_drew1) | exact HB.out)⟩⟩
       ·rw [if_neg c15] at H
        exact absurd H (by simp)
      ·rw [if_neg c14] at H
       have c14b0 : decide ((x3_1.size : Int) < (t908.size : Int)) = false := decide_eq_false c14
       have c14b1 : decide (x3_1.size < t908.size) = false := decide_eq_false (fun h => c14 (Int.ofNat_lt.mpr h))
       clear c14
       as_aux_lemma =>
        have H' := Aside0.mk H
        clear H
        go_wp2
        go_meet
        case rel => exact ⟨_, (x3_1), (by first | rfl | (simp; done) | (simp [*]; done)), H', ⟨by have := HK1.out; first | omega | exact Nat.le_refl _⟩, ⟨by repeat (first | (with_reducible first | exact HB.out | apply below_alloc | apply pw_below_drewN | apply below_drew1) | exact HB.out)⟩⟩
  case rest =>
   clear HC10; (try clear c1); (try clear p2); (try clear c4); (try clear c5); (try clear c8); (try clear c13); (try clear c13b0); (try clear c13b1); (try clear c14); (try clear c14b0); (try clear c14b1); (try clear c15); (try clear c15b0); (try clear c15b1); (try clear c15b2); (try clear p2)
   obtain ⟨kq, x3_9, rfl, HA, HJ9, HB⟩ := hcut
   cases kq with
   | zero => exact absurd HA.out (by simp [foghornlaw20_MendOver.j1])
   | succ kj9 =>
    have H := HA.out; clear HA
    simp only [foghornlaw20_MendOver.j1] at H
    have HC16 := Aside0.mk H; clear H
    go_upto_if 57 with (fail)
    go_cut [3] (fun v3 wc => ∃ (kq : Nat) (x3_15 : ByteArray), v3 = .string x3_15 ∧ Aside0 (foghornlaw20_MendOver.j2 kq a1 t909 x3_15 l4 a5 t908 = some r) ∧ Aside0 (kq ≤ kj9) ∧ Aside0 (Below w.heap.size w wc))
    case first =>
     have H := HC16.out; clear HC16
     by_cases c17 : x3_9.toList = ([] : List UInt8)
     ·rw [if_pos c17] at H
      have c17b0 : (x3_9.toList == ([] : List UInt8)) = true := beq_iff_eq.mpr c17
      have c17e : x3_9.toList.isEmpty = true := List.isEmpty_iff.2 c17
      have c17b1 : (x3_9.toList != ([] : List UInt8)) = false := bne_eq_false_iff_eq.mpr c17
      clear c17
      (first | rw [c17b0] | rw [c17e] | (simp only [i64_w, i32_w]; rw [c17b0]) | skip)
      as_aux_lemma =>
       have H' := Aside0.mk H
       clear H
       go_wp2
       go_meet
       case rel => exact ⟨_, (t908), (by first | rfl | (simp; done) | (simp [*]; done)), H', ⟨by have := HJ9.out; first | omega | exact Nat.le_refl _⟩, ⟨by repeat (first | (with_reducible first | exact HB.out | apply below_alloc | apply pw_below_drewN | apply below_drew1) | exact HB.out)⟩⟩
     ·rw [if_neg c17] at H
      have c17b0 : (x3_9.toList == ([] : List UInt8)) = false := beq_eq_false_iff_ne.mpr c17
      have c17e : x3_9.toList.isEmpty = false := Bool.eq_false_iff.2 (fun h_ => c17 (List.isEmpty_iff.1 h_))
      have c17b1 : (x3_9.toList != ([] : List UInt8)) = true := bne_iff_ne.mpr c17
      (first | rw [c17b0] | rw [c17e] | (simp only [i64_w, i32_w]; rw [c17b0]) | skip)
      as_aux_lemma =>
       have H' := Aside0.mk H
       clear H
       go_wp2
       go_meet
       case rel => exact ⟨_, (x3_9), (by first | rfl | (simp; done) | (simp [*]; done)), H', ⟨by have := HJ9.out; first | omega | exact Nat.le_refl _⟩, ⟨by repeat (first | (with_reducible first | exact HB.out | apply below_alloc | apply pw_below_drewN | apply below_drew1) | exact HB.out)⟩⟩
    case rest =>
     clear HC16; (try clear c1); (try clear p2); (try clear c4); (try clear c5); (try clear c8); (try clear c13); (try clear c13b0); (try clear c13b1); (try clear c14); (try clear c14b0); (try clear c14b1); (try clear c15); (try clear c15b0); (try clear c15b1); (try clear c15b2); (try clear c17); (try clear c17b0); (try clear c17b1); (try clear p2)
     obtain ⟨kq, x3_15, rfl, HA, HJ15, HB⟩ := hcut
     cases kq with
     | zero => exact absurd HA.out (by simp [foghornlaw20_MendOver.j2])
     | succ kj15 =>
      have H := HA.out; clear HA
      simp only [foghornlaw20_MendOver.j2] at H
      by_cases c18 : t908.size ≤ 9223372036854775807
      ·rw [if_pos c18] at H
       have c18b0 := eq_true c18
       have c18b1 : decide (t908.size ≤ 9223372036854775807) = true := decide_eq_true c18
       try have c18b2 : (9223372036854775807 < t908.size) = False := eq_false (Nat.not_lt.2 c18)
       clear c18
       obtain ⟨y910, hy910⟩ : ∃ y_ : List Int, y_ = (bytesOf t908) := ⟨_, rfl⟩
       replace H : (foghornlaw20_MendOver.l1 kj15 a1 t909 x3_15 l4 a5 t908 y910 0) = some r := by first | (rw [hy910]; with_reducible exact H) | (have H2_ := (Option.bind_some _ _).symm.trans H; rw [hy910]; with_reducible exact H2_) | (have H2_ := (Option.bind_some _ _).symm.trans H; with_reducible exact H2_) | with_reducible exact H | (rw [hy910]; exact H) | exact H
       have Ny910 := Aside0.mk hy910; clear hy910
       have H' := Aside0.mk H
       clear H
       go_wp2_with (first | ((with_reducible refine gate_dst (N := 60) rfl ?_); (try (refine gate_guard (by rfl) ?_; dsimp only)); refine ConvW.Q_conv rfl (N := 60) rfl 9 29 5 (.tmp 59) rfl Try.underlying9 Try.underlying29 Try.underlying5 _ (s := t908) rfl (ok := fun _ => True) trivial (Below.refl _ _) (Nat.le_refl _) (of_decide_eq_true (by first | (with_reducible assumption) | assumption)) ?_; intro v911 w19 ho20 hb hg_ hnew_; clear hg_ hnew_; (first | rw [← Ny910.out] at ho20 | (simp only [Int.reduceToNat] at ho20; rw [← Ny910.out] at ho20)); have n0_ := Aside0.mk (Kd.Q_lower ho20 (below_size HB.out)); have n1_ := Aside0.mk (below_step HB.out hb); clear HB; have HO912 := n0_; have HB := n1_; clear n0_ n1_; clear hb ho20))
       go_loopg [15] kj15 (fun kq v15 w' => ∃ (x14_3 : List Int) (x15_3 : Int), v15 = .int .i64 x15_3 ∧ Aside0 (foghornlaw20_MendOver.l1 kq a1 t909 x3_15 l4 a5 t908 x14_3 x15_3 = some r) ∧ Aside0 (kq ≤ kj15) ∧ Aside0 (Kd.Q (Kd.int .u8) 5 w' w.heap.size (fun _ => True) v911 x14_3) ∧ Aside0 (Below w.heap.size w w'))
       case atStart => exact ⟨(y910), (0), (by first | rfl | (simp; done) | (simp [*]; done)), H', ⟨Nat.le_refl _⟩, ⟨by (with_reducible repeat (first | apply Kd.Q_alloc | apply Kd.Q_drewN | apply Kd.Q_drew)); exact HO912.out⟩, ⟨by repeat (first | (with_reducible first | exact HB.out | apply below_alloc | apply pw_below_drewN | apply below_drew1) | exact HB.out)⟩⟩
       case round =>
        clear H'; (try clear c1); (try clear p2); (try clear c4); (try clear c5); (try clear c8); (try clear c13); (try clear c13b0); (try clear c13b1); (try clear c14); (try clear c14b0); (try clear c14b1); (try clear c15); (try clear c15b0); (try clear c15b1); (try clear c15b2); (try clear c17); (try clear c17b0); (try clear c17b1); (try clear c18); (try clear c18b0); (try clear c18b1); (try clear c18b2); (try clear p2)
        obtain ⟨x14_3, x15_3, rfl, HA, HK3, HO_14, HB⟩ := hrel
        cases gk with
        | zero => exact absurd HA.out (by simp [foghornlaw20_MendOver.l1])
        | succ k3 =>
         have H := HA.out; clear HA
         simp only [foghornlaw20_MendOver.l1] at H
         by_cases c21 : x15_3 < (x14_3.length : Int)
         ·rw [if_pos c21] at H
          have c21b0 : decide (x15_3 < (x14_3.length : Int)) = true := decide_eq_true c21
          clear c21
          by_cases c22 : 0 ≤ x15_3
          ·rw [if_pos c22] at H
           have c22b0 : decide (0 ≤ x15_3) = true := decide_eq_true c22
           clear c22
           by_cases c23 : x15_3 < (x3_15.size : Int)
           ·rw [if_pos c23] at H
            have c23b0 : decide (x15_3 < (x3_15.size : Int)) = true := decide_eq_true c23
            clear c23
            by_cases c25 : (Int.tmod (bt x3_15 x15_3) 16) = 0
            ·rw [if_pos c25] at H
             have c25b0 : ((Int.tmod (bt x3_15 x15_3) 16) == 0) = true := beq_iff_eq.mpr c25
             have c25b1 : ((Int.tmod (bt x3_15 x15_3) 16) != 0) = false := bne_eq_false_iff_eq.mpr c25
             clear c25
             obtain ⟨y913, hy913⟩ : ∃ y_ : List Int, y_ = (x14_3.set (x15_3 : Int).toNat (bt x3_15 x15_3)) := ⟨_, rfl⟩
             replace H : (foghornlaw20_MendOver.l1 k3 a1 t909 x3_15 l4 a5 t908 y913 (wrap64 (x15_3 + 1))) = some r := by first | (rw [hy913]; with_reducible exact H) | (have H2_ := (Option.bind_some _ _).symm.trans H; rw [hy913]; with_reducible exact H2_) | (have H2_ := (Option.bind_some _ _).symm.trans H; with_reducible exact H2_) | with_reducible exact H | (rw [hy913]; exact H) | exact H
             have Ny913 := Aside0.mk hy913; clear hy913
             as_aux_lemma =>
              have H' := Aside0.mk H
              clear H
              obtain ⟨Ao28, co28, eo28, _⟩ := Kd.Q_slice HO_14.out
              subst eo28
              have p24 : 0 ≤ (x15_3 : Int) := of_decide_eq_true (by first | (with_reducible assumption) | assumption)
              have q24 : x15_3 < (x3_15.size : Int) := of_decide_eq_true (by first | (with_reducible assumption) | assumption)
              have hx24 := bt_at x3_15 x15_3; replace p24 := eq_true p24; replace q24 := eq_true q24
              have p26 : 0 ≤ (x15_3 : Int) := of_decide_eq_true (by first | (with_reducible assumption) | assumption)
              have q26 : x15_3 < (x3_15.size : Int) := of_decide_eq_true (by first | (with_reducible assumption) | assumption)
              have hx26 := bt_at x3_15 x15_3; replace p26 := eq_true p26; replace q26 := eq_true q26
              have p27 : 0 ≤ (x15_3 : Int) := of_decide_eq_true (by first | (with_reducible assumption) | assumption)
              have q27 : (x15_3 : Int) < ((x14_3.length : Int) : Int) := of_decide_eq_true (by first | (with_reducible assumption) | assumption)
              obtain ⟨go27, oo27, co27, eo27, gb27, gl27, cl27, HG27⟩ := Kd.Q_form HO_14.out (by omega)
              (first | cases eo27 | (injection eo27 with ea_ en_ ec_; (first | subst ea_ | (injection ea_ with ea_; subst ea_)); subst ec_; clear en_))
              have GB27 := Aside0.mk gb27; have GG27 := Aside0.mk HG27; clear gb27 gl27 HG27
              obtain ⟨hx27_0, hf27_0⟩ := Kd.Q_cell 0 HO_14.out (x15_3 : Int) p27 q27
              replace p27 := eq_true p27; replace q27 := eq_true q27
              have HP29 := Kd.Q_putg HO_14.out (x15_3 : Int) (of_decide_eq_true (by first | (with_reducible assumption) | assumption)) (by have h_ : (x15_3 : Int) < ((x14_3.length : Int) : Int) := of_decide_eq_true (by first | (with_reducible assumption) | assumption); first | exact h_ | (have e_ := (Kd.Q_reads' HO_14.out).1; omega) | simpa using h_) (bt x3_15 x15_3)
              go_wp2_with (first | ((with_reducible refine gate_store (t := 5) (p := 77) rfl ?_); refine store_event (t := 5) (p := 77) (v := ?vo_w30) (w1 := (wr.setCell ⟨go27, oo27 + (x15_3 : Int).toNat, none⟩ (.int .u8 (bt x3_15 x15_3)))) ?hg ?ho ?hn ?hr ?_; (case ho => rfl); (case hg => rfl); (case hn => rfl); (case hr => first | (go_simp; done) | (go_simp; rfl)); intro w30 hw; have hg : wr.grownBy w30 (some go27) := (by rw [hw]; exact HP29.2); have hp_ : Kd.Q (Kd.int .u8) 5 w30 w.heap.size (fun _ => True) (.slice (some ⟨go27, oo27, none⟩) x14_3.length co28) y913 := (by rw [hw, Ny913.out]; exact HP29.1); clear HP29; have n0_ := Aside0.mk (hp_); have n1_ := Aside0.mk ((by rw [hw]; exact below_set (HB.out) GB27.out : Below w.heap.size w w30)); clear HO_14 HB; have HO_14 := n0_; have HB := n1_; clear n0_ n1_; clear hg hw hp_))
              first | go_roundg k3 | (simp only [add_plain] at *; go_roundg k3)
              case measure => have := HJ9.out; have := HJ15.out; have := HK3.out; omega
              case rel => exact ⟨(y913), (wrap64 (x15_3 + 1)), (by first | rfl | (simp; done) | (simp [*]; done)), H', ⟨by have := HJ9.out; have := HJ15.out; have := HK3.out; omega⟩, ⟨by (with_reducible repeat (first | apply Kd.Q_alloc | apply Kd.Q_drewN | apply Kd.Q_drew)); exact HO_14.out⟩, ⟨by repeat (first | (with_reducible first | exact HB.out | apply below_alloc | apply pw_below_drewN | apply below_drew1) | exact HB.out)⟩⟩
            ·rw [if_neg c25] at H
             have c25b0 : ((Int.tmod (bt x3_15 x15_3) 16) == 0) = false := beq_eq_false_iff_ne.mpr c25
             have c25b1 : ((Int.tmod (bt x3_15 x15_3) 16) != 0) = true := bne_iff_ne.mpr c25
             as_aux_lemma =>
              have H' := Aside0.mk H
              clear H
              obtain ⟨Ao31, co31, eo31, _⟩ := Kd.Q_slice HO_14.out
              subst eo31
              have p24 : 0 ≤ (x15_3 : Int) := of_decide_eq_true (by first | (with_reducible assumption) | assumption)
              have q24 : x15_3 < (x3_15.size : Int) := of_decide_eq_true (by first | (with_reducible assumption) | assumption)
              have hx24 := bt_at x3_15 x15_3; replace p24 := eq_true p24; replace q24 := eq_true q24
              go_wp2
              first | go_roundg k3 | (simp only [add_plain] at *; go_roundg k3)
              case measure => have := HJ9.out; have := HJ15.out; have := HK3.out; omega
              case rel => exact ⟨(x14_3), (wrap64 (x15_3 + 1)), (by first | rfl | (simp; done) | (simp [*]; done)), H', ⟨by have := HJ9.out; have := HJ15.out; have := HK3.out; omega⟩, ⟨by (with_reducible repeat (first | apply Kd.Q_alloc | apply Kd.Q_drewN | apply Kd.Q_drew)); exact HO_14.out⟩, ⟨by repeat (first | (with_reducible first | exact HB.out | apply below_alloc | apply pw_below_drewN | apply below_drew1) | exact HB.out)⟩⟩
           ·rw [if_neg c23] at H
            exact absurd H (by simp)
          ·rw [if_neg c22] at H
           exact absurd H (by simp)
         ·rw [if_neg c21] at H
          have c21b0 : decide (x15_3 < (x14_3.length : Int)) = false := decide_eq_false c21
          clear c21
          have H' := Aside0.mk H
          clear H
          obtain ⟨Ao32, co32, eo32, _⟩ := Kd.Q_slice HO_14.out
          subst eo32
          go_wp2
          go_loopg [1] k3 (fun kq v1 w' => ∃ (x1_4 : ByteArray), v1 = .string x1_4 ∧ Aside0 (foghornlaw20_MendOver.l2 kq x1_4 t909 l4 a5 t908 x14_3 = some r) ∧ Aside0 (kq ≤ k3) ∧ Aside0 (Kd.Q (Kd.int .u8) 5 w' w.heap.size (fun _ => True) (.slice Ao32 x14_3.length co32) x14_3) ∧ Aside0 (Below w.heap.size w w'))
          case atStart => exact ⟨(a1), (by first | rfl | (simp; done) | (simp [*]; done)), H', ⟨Nat.le_refl _⟩, ⟨by (with_reducible repeat (first | apply Kd.Q_alloc | apply Kd.Q_drewN | apply Kd.Q_drew)); exact HO_14.out⟩, ⟨by repeat (first | (with_reducible first | exact HB.out | apply below_alloc | apply pw_below_drewN | apply below_drew1) | exact HB.out)⟩⟩
          case round =>
           clear H'; (try clear c1); (try clear c2); (try clear p2); (try clear q2); (try clear hx2); (try clear c4); (try clear c5); (try clear p6); (try clear c8); (try clear c13); (try clear c13b0); (try clear c13b1); (try clear c14); (try clear c14b0); (try clear c14b1); (try clear c15); (try clear c15b0); (try clear c15b1); (try clear c15b2); (try clear c17); (try clear c17b0); (try clear c17b1); (try clear c18); (try clear c18b0); (try clear c18b1); (try clear c18b2); (try clear c21); (try clear c21b0); (try clear c22); (try clear c22b0); (try clear c23); (try clear c23b0); (try clear p24); (try clear q24); (try clear hx24); (try clear c25); (try clear c25b0); (try clear c25b1); (try clear p26); (try clear q26); (try clear hx26); (try clear p27); (try clear q27); (try clear hx27); (try clear hf27); (try clear hx27_0); (try clear p2); (try clear p24); (try clear p26); (try clear p27); (try clear q24); (try clear q26); (try clear q27)
           obtain ⟨x1_4, rfl, HA, HK4, HO_14, HB⟩ := hrel
           cases gk with
           | zero => exact absurd HA.out (by simp [foghornlaw20_MendOver.l2])
           | succ k4 =>
            have H := HA.out; clear HA
            simp only [foghornlaw20_MendOver.l2] at H
            by_cases c33 : (x1_4.size : Int) < (wrap64 ((t908.size : Int) - t909))
            ·rw [if_pos c33] at H
             have c33b0 : decide ((x1_4.size : Int) < (wrap64 ((t908.size : Int) - t909))) = true := decide_eq_true c33
             clear c33
             by_cases c34 : x1_4.size + 1 ≤ 9223372036854775807
             ·rw [if_pos c34] at H
              have c34b0 := eq_true c34
              have c34b1 : decide (x1_4.size + 1 ≤ 9223372036854775807) = true := decide_eq_true c34
              try have c34b2 : (9223372036854775807 < x1_4.size + 1) = False := eq_false (Nat.not_lt.2 c34)
              by_cases c35 : (x1_4 ++ (⟨#[120]⟩ : ByteArray)).size + x1_4.size ≤ 9223372036854775807
              ·rw [if_pos c35] at H
               have c35b0 := eq_true c35
               have c35b1 : decide ((x1_4 ++ (⟨#[120]⟩ : ByteArray)).size + x1_4.size ≤ 9223372036854775807) = true := decide_eq_true c35
               try have c35b2 : (9223372036854775807 < (x1_4 ++ (⟨#[120]⟩ : ByteArray)).size + x1_4.size) = False := eq_false (Nat.not_lt.2 c35)
               as_aux_lemma =>
                have H' := Aside0.mk H
                clear H
                go_wp2
                first | go_roundg k4 | (simp only [add_plain] at *; go_roundg k4)
                case measure => have := HJ9.out; have := HJ15.out; have := HK3.out; have := HK4.out; omega
                case rel => exact ⟨((x1_4 ++ (⟨#[120]⟩ : ByteArray)) ++ x1_4), (by first | rfl | (simp; done) | (simp [*]; done)), H', ⟨by have := HJ9.out; have := HJ15.out; have := HK3.out; have := HK4.out; omega⟩, ⟨by (with_reducible repeat (first | apply Kd.Q_alloc | apply Kd.Q_drewN | apply Kd.Q_drew)); exact HO_14.out⟩, ⟨by repeat (first | (with_reducible first | exact HB.out | apply below_alloc | apply pw_below_drewN | apply below_drew1) | exact HB.out)⟩⟩
              ·rw [if_neg c35] at H
               exact absurd H (by simp)
             ·rw [if_neg c34] at H
              exact absurd H (by simp)
            ·rw [if_neg c33] at H
             have c33b0 : decide ((x1_4.size : Int) < (wrap64 ((t908.size : Int) - t909))) = false := decide_eq_false c33
             clear c33
             obtain ⟨ji36, hji36⟩ : ∃ j_ : Int, (wrap64 ((t908.size : Int) - t909)) = j_ := ⟨_, rfl⟩
             replace H : (if 0 ≤ (ji36) then (if (ji36) ≤ (x1_4.size : Int) then ((foghornref19_Encode.f k4 (x1_4.extract 0 ((ji36) : Int).toNat) t909).bind fun bt914 => (if 0 ≤ (t908.size : Int) then (if ((t908.size : Int) : Int).toNat ≤ 281474976710656 then ((some (([] : List Int) : List Int)).bind fun y919 => (if y919.length + x14_3.length < 140737488355328 then (foghornlaw20_MendOver.l3 k4 t909 l4 a5 t908 x14_3 bt914.1 (List.replicate ((t908.size : Int) : Int).toNat 0) (y919 ++ x14_3) ([] : List Int) 0) else (none))) else (none)) else (none))) else (none)) else (none)) = some r := by first | (rw [hji36] at H; exact H) | (simp only [hji36] at H ⊢; exact H)
             (try rw [hji36] at c33b0)
             have hji36w : (IntKind.i64.wrap ((t908.size : Int) - t909)) = ji36 := (i64_w _).trans hji36
             by_cases c37 : 0 ≤ (ji36)
             ·rw [if_pos c37] at H
              have c37b0 := eq_true c37
              have c37b1 : decide (0 ≤ (ji36)) = true := decide_eq_true c37
              clear c37
              by_cases c38 : (ji36) ≤ (x1_4.size : Int)
              ·rw [if_pos c38] at H
               have c38b0 := eq_true c38
               have c38b1 : decide ((ji36) ≤ (x1_4.size : Int)) = true := decide_eq_true c38
               clear c38; replace H := Option.bind_eq_some_iff.mp H
               obtain ⟨⟨t914, t915⟩, A390, H⟩ := H
               replace H : (if 0 ≤ (t908.size : Int) then (if ((t908.size : Int) : Int).toNat ≤ 281474976710656 then ((some (([] : List Int) : List Int)).bind fun y919 => (if y919.length + x14_3.length < 140737488355328 then (foghornlaw20_MendOver.l3 k4 t909 l4 a5 t908 x14_3 t914 (List.replicate ((t908.size : Int) : Int).toNat 0) (y919 ++ x14_3) ([] : List Int) 0) else (none))) else (none)) else (none)) = some r := H
               have A39 := Aside0.mk A390; clear A390
               by_cases c40 : 0 ≤ (t908.size : Int)
               ·rw [if_pos c40] at H
                have c40b0 := eq_true c40
                have c40b1 : decide (0 ≤ (t908.size : Int)) = true := decide_eq_true c40
                clear c40
                by_cases c41 : ((t908.size : Int) : Int).toNat ≤ 281474976710656
                ·rw [if_pos c41] at H
                 have c41b0 := eq_true c41
                 have c41b1 : decide (((t908.size : Int) : Int).toNat ≤ 281474976710656) = true := decide_eq_true c41
                 clear c41
                 obtain ⟨y916, hy916⟩ : ∃ y_ : List Int, y_ = (List.replicate ((t908.size : Int) : Int).toNat 0) := ⟨_, rfl⟩
                 replace H : ((some (([] : List Int) : List Int)).bind fun y919 => (if y919.length + x14_3.length < 140737488355328 then (foghornlaw20_MendOver.l3 k4 t909 l4 a5 t908 x14_3 t914 y916 (y919 ++ x14_3) ([] : List Int) 0) else (none))) = some r := by first | (rw [hy916]; with_reducible exact H) | (have H2_ := (Option.bind_some _ _).symm.trans H; rw [hy916]; with_reducible exact H2_) | (have H2_ := (Option.bind_some _ _).symm.trans H; with_reducible exact H2_) | with_reducible exact H | (rw [hy916]; exact H) | exact H
                 have Ny916 := Aside0.mk hy916; clear hy916
                 obtain ⟨y919, hy919⟩ : ∃ y_ : List Int, y_ = (([] : List Int)) := ⟨_, rfl⟩
                 replace H : (if y919.length + x14_3.length < 140737488355328 then (foghornlaw20_MendOver.l3 k4 t909 l4 a5 t908 x14_3 t914 y916 (y919 ++ x14_3) ([] : List Int) 0) else (none)) = some r := by first | (rw [hy919]; with_reducible exact H) | (have H2_ := (Option.bind_some _ _).symm.trans H; rw [hy919]; with_reducible exact H2_) | (have H2_ := (Option.bind_some _ _).symm.trans H; with_reducible exact H2_) | with_reducible exact H | (rw [hy919]; exact H) | exact H
                 have Ny919 := Aside0.mk hy919; clear hy919
                 by_cases c42 : y919.length + x14_3.length < 140737488355328
                 ·rw [if_pos c42] at H
                  have LMc42 := Aside0.mk c42; clear c42
                  obtain ⟨y922, hy922⟩ : ∃ y_ : List Int, y_ = (y919 ++ x14_3) := ⟨_, rfl⟩
                  replace H : (foghornlaw20_MendOver.l3 k4 t909 l4 a5 t908 x14_3 t914 y916 y922 ([] : List Int) 0) = some r := by first | (rw [hy922]; with_reducible exact H) | (have H2_ := (Option.bind_some _ _).symm.trans H; rw [hy922]; with_reducible exact H2_) | (have H2_ := (Option.bind_some _ _).symm.trans H; with_reducible exact H2_) | with_reducible exact H | (rw [hy922]; exact H) | exact H
                  have Ny922 := Aside0.mk hy922; clear hy922
                  have H' := Aside0.mk H
                  clear H
                  go_wp2_with (first | ((with_reducible refine gate_callee (f := 24) rfl ?_); refine goesL_ (some 97) rfl rfl Try.func24 (by kernel_rfl) rfl #[.string (x1_4.extract 0 ((ji36) : Int).toNat), .int .i64 t909] rfl (by (try simp only [List.map_toArray, List.map_cons, List.map_nil]); first | done | (simp only [hji36]; rfl) | rfl | (simp only [List.length_drop, List.length_take]; rfl)) ?_; (with_reducible refine (foghornref19_Encode.calls k4 (x1_4.extract 0 ((ji36) : Int).toNat) t909 t914 t915 _ A39.out).mono ?_); rintro e w43 ⟨rfl, hb⟩; refine ⟨_, rfl, ?_⟩; have n0_ := Aside0.mk (Kd.Q_below HO_14.out hb); have n1_ := Aside0.mk (below_step HB.out hb); clear HO_14 HB; have HO_14 := n0_; have HB := n1_; clear n0_ n1_; (try clear hb); (try clear hb2); (try clear hk); (try clear hi)) | ((with_reducible refine gate_dst (N := 102) rfl ?_); (try (refine gate_guard (by rfl) ?_; dsimp only)); refine Kd.R_make (Kd.int .u8) _ 5 rfl (N := 102) rfl 29 _ _ rfl (t908.size : Int) rfl rfl Try.underlying29 (.int .u8 0) 1 info5 rfl (by decide) (by omega) 0 (ok := fun _ => True) (okp := fun _ => True) rfl (fun _ hk => hk) trivial (of_decide_eq_true (by first | (with_reducible assumption) | assumption)) (Nat.le_trans (Nat.mul_le_mul_right _ (of_decide_eq_true (by first | (with_reducible assumption) | assumption) : (t908.size : Int).toNat ≤ 281474976710656)) (by omega)) (Below.refl _ _) (Nat.le_refl _) ?_; intro v917 w44 ho45 hb hg_ hnew_; clear hg_ hnew_; (first | rw [← Ny916.out] at ho45 | (simp only [Int.reduceToNat] at ho45; rw [← Ny916.out] at ho45)); have n0_ := Aside0.mk (Kd.Q_elder' HO_14.out (Kd.R_base ho45) hb); have n1_ := Aside0.mk (Kd.R_lower (Kd.R_new' ho45 (Kd.Q_lt HO_14.out)) (below_size HB.out)); have n2_ := Aside0.mk (below_step HB.out hb); clear HO_14 HB; have HO_14 := n0_; have HO918 := n1_; have HB := n2_; clear n0_ n1_ n2_; clear hb ho45) | ((with_reducible refine gate_dst (N := 103) rfl ?_); (try (refine gate_guard (by rfl) ?_; dsimp only)); refine Kd.R_lit (Kd.int .u8) _ 5 ?hg (N := 103) ?hd (xs := ([] : List Int)) (inner := []) (ok := fun _ => True) (okp := fun _ => True) ?hr ?hp (fun _ hk => hk) trivial (Below.refl _ _) (Nat.le_refl _) (by simp) ?_; (case hd => rfl); (case hg => rfl); (case hr => first | (go_simp; done) | (go_simp; rfl)); (case hp => exact (Reps.none _ _)); intro v920 w46 ho47 hb hg_ hnew_; clear hg_ hnew_; (first | rw [← Ny919.out] at ho47 | (simp only [Int.reduceToNat] at ho47; rw [← Ny919.out] at ho47)); have n0_ := Aside0.mk (Kd.Q_elder' HO_14.out (Kd.R_base ho47) hb); have n1_ := Aside0.mk (Kd.R_elder' HO918.out (Kd.R_base ho47) hb); have n2_ := Aside0.mk (Kd.R_lower (Kd.R_new' (Kd.R_new' ho47 (Kd.Q_lt HO_14.out)) (Kd.R_lt HO918.out)) (below_size HB.out)); have n3_ := Aside0.mk (below_step HB.out hb); clear HO_14 HO918 HB; have HO_14 := n0_; have HO918 := n1_; have HO921 := n2_; have HB := n3_; clear n0_ n1_ n2_ n3_; clear hb ho47) | ((with_reducible refine gate_builtin (b := .append) (xs := #[.tmp 103, .tmp 104]) rfl ?_); (try (refine gate_guard (by rfl) ?_; dsimp only)); at_builtin; refine Kd.R_append_rows (Kd.int .u8) (w0 := w) w.heap.size rfl (.tmp 103) (.tmp 104) 29 5 (.int .u8 0) 1 rfl Try.underlying29 info5 rfl (by decide) (by omega) v920 y919 x14_3 _ _ _ (fun k_ => some k_ ≠ (.slice Ao32 x14_3.length co32 : Value).ownBlock ∧ some k_ ≠ (v917 : Value).ownBlock) (fun _ => False) rfl rfl ?aO ?aR (fun _ _ h => h) (fun _ h => h.elim) ?aF ?aB ?aS ?aL ?_; (case aR => repeat (first | exact (Kd.Q_reads' HO_14.out).2.2 | (with_reducible refine Kd.C_alloc ?_ _) | (with_reducible refine Kd.C_drewN ?_ _) | (with_reducible refine Kd.C_drew ?_))); (case aB => exact HB.out); (case aF => exact (fun k_ hk => ⟨Kd.fresh' (Kd.Q_lt HO_14.out) k_ hk, Kd.fresh' (Kd.R_lt HO918.out) k_ hk⟩)); (case aO => exact (by (with_reducible repeat (first | apply Kd.R_alloc | apply Kd.R_drewN | apply Kd.R_drew)); exact Kd.R_mono HO921.out (fun _ hk => ⟨hk.1.2, hk.2⟩))); (case aS => exact (below_size HB.out)); (case aL => have := LMc42.out; omega); intro v923 w48 ho hb hg hat; rw [← Ny922.out] at ho; have n0_ := Aside0.mk (Kd.Q_after (ok := (fun k_ => some k_ ≠ (v917 : Value).ownBlock)) (by (with_reducible repeat (first | apply Kd.Q_alloc | apply Kd.Q_drewN | apply Kd.Q_drew)); exact Kd.Q_mono HO_14.out (fun _ hk => ⟨hk.1.2, hk.2⟩)) hg hat); have n1_ := Aside0.mk (Kd.R_after (ok := (fun k_ => some k_ ≠ (.slice Ao32 x14_3.length co32 : Value).ownBlock)) (by (with_reducible repeat (first | apply Kd.R_alloc | apply Kd.R_drewN | apply Kd.R_drew)); exact Kd.R_mono HO918.out (fun _ hk => ⟨hk.1.2, hk.2⟩)) hg hat); have n2_ := Aside0.mk (hb); have n3_ := Aside0.mk (ho); clear HO_14 HO918 HB HO921; have HO_14 := n0_; have HO918 := n1_; have HB := n2_; have HO924 := n3_; clear n0_ n1_ n2_ n3_; clear ho hb hg hat))
                  go_loopg [20, 21] k4 (fun kq v20 v21 w' => ∃ (x19_5 : List Int) (x20_5 : List Int) (x21_5 : Int), v21 = .int .i64 x21_5 ∧ Aside0 (foghornlaw20_MendOver.l3 kq t909 l4 a5 t908 x14_3 t914 y916 x19_5 x20_5 x21_5 = some r) ∧ Aside0 (kq ≤ k4) ∧ Aside0 (Kd.Q (Kd.int .u8) 5 w' w.heap.size (fun k_ => some k_ ≠ (v917 : Value).ownBlock ∧ some k_ ≠ (v923 : Value).ownBlock) (.slice Ao32 x14_3.length co32) x14_3) ∧ Aside0 (Kd.R (Kd.int .u8) 5 w' w.heap.size (fun k_ => some k_ ≠ ((.slice Ao32 x14_3.length co32) : Value).ownBlock ∧ some k_ ≠ (v923 : Value).ownBlock) v917 y916) ∧ Aside0 (Kd.R (Kd.int .u8) 5 w' w.heap.size (fun k_ => some k_ ≠ ((.slice Ao32 x14_3.length co32) : Value).ownBlock ∧ some k_ ≠ (v917 : Value).ownBlock) v923 x19_5) ∧ Aside0 (Kd.R (Kd.int .i64) 3 w' w.heap.size (fun _ => True) v20 x20_5) ∧ Aside0 (Below w.heap.size w w'))
                  case atStart => exact ⟨(y922), (([] : List Int)), (0), (by first | rfl | (simp; done) | (simp [*]; done)), H', ⟨Nat.le_refl _⟩, ⟨by (with_reducible repeat (first | apply Kd.Q_alloc | apply Kd.Q_drewN | apply Kd.Q_drew)); exact HO_14.out⟩, ⟨by (with_reducible repeat (first | apply Kd.R_alloc | apply Kd.R_drewN | apply Kd.R_drew)); exact HO918.out⟩, ⟨by (with_reducible repeat (first | apply Kd.R_alloc | apply Kd.R_drewN | apply Kd.R_drew)); exact HO924.out⟩, ⟨by first | exact Kd.R_nil _ _ _ _ _ | exact Kd.N_nil _ _ _ _ _ | exact Kd.V_nil _ _ _ _ _ | exact Kd.Q_nil _ _ _ _ _ | exact Kd.S_nil _ _ _ _ _⟩, ⟨by repeat (first | (with_reducible first | exact HB.out | apply below_alloc | apply pw_below_drewN | apply below_drew1) | exact HB.out)⟩⟩
                  case round =>
                   clear H'; (try clear c1); (try clear c2); (try clear p2); (try clear q2); (try clear hx2); (try clear c3); (try clear c4); (try clear c5); (try clear p6); (try clear c8); (try clear c13); (try clear c13b0); (try clear c13b1); (try clear c14); (try clear c14b0); (try clear c14b1); (try clear c15); (try clear c15b0); (try clear c15b1); (try clear c15b2); (try clear c17); (try clear c17b0); (try clear c17b1); (try clear c18); (try clear c18b0); (try clear c18b1); (try clear c18b2); (try clear c21); (try clear c21b0); (try clear c22); (try clear c22b0); (try clear c23); (try clear c23b0); (try clear c24); (try clear p24); (try clear q24); (try clear hx24); (try clear c25); (try clear c25b0); (try clear c25b1); (try clear p26); (try clear q26); (try clear hx26); (try clear p27); (try clear q27); (try clear hx27); (try clear hf27); (try clear c33); (try clear c33b0); (try clear c34); (try clear c34b0); (try clear c34b1); (try clear c34b2); (try clear c35); (try clear c35b0); (try clear c35b1); (try clear c35b2); (try clear c37); (try clear c37b0); (try clear c37b1); (try clear c38); (try clear c38b0); (try clear c38b1); (try clear c40); (try clear c40b0); (try clear c40b1); (try clear c41); (try clear c41b0); (try clear c41b1); (try clear c42); (try clear hx27_0); (try clear p2); (try clear p24); (try clear p26); (try clear p27); (try clear p6); (try clear q2); (try clear q24); (try clear q26); (try clear q27)
                   obtain ⟨x19_5, x20_5, x21_5, rfl, HA, HK5, HO_14, HO_18, HO_19, HO_20, HB⟩ := hrel
                   cases gk with
                   | zero => exact absurd HA.out (by simp [foghornlaw20_MendOver.l3])
                   | succ k5 =>
                    have H := HA.out; clear HA
                    simp only [foghornlaw20_MendOver.l3] at H
                    by_cases c49 : x21_5 < (l4.length : Int)
                    ·rw [if_pos c49] at H
                     have c49b0 : decide (x21_5 < (l4.length : Int)) = true := decide_eq_true c49
                     clear c49
                     by_cases c50 : 0 ≤ x21_5
                     ·rw [if_pos c50] at H
                      have c50b0 : decide (0 ≤ x21_5) = true := decide_eq_true c50
                      clear c50
                      by_cases c51 : (t908.size : Int) = 0
                      ·rw [if_pos c51] at H
                       exact absurd H (by simp)
                      ·rw [if_neg c51] at H
                       have c51b0 : ((t908.size : Int) == 0) = false := beq_eq_false_iff_ne.mpr c51
                       have c51b1 : ((t908.size : Int) != 0) = true := bne_iff_ne.mpr c51
                       have H' := Aside0.mk H
                       clear H
                       have p925 : 0 ≤ (x21_5 : Int) := of_decide_eq_true (by first | (with_reducible assumption) | assumption)
                       have q925 : x21_5 < (l4.length : Int) := of_decide_eq_true (by first | (with_reducible assumption) | assumption)
                       obtain ⟨ad925, e925, hx925_0⟩ := Kd.at_int HR4.out x21_5 p925 q925
                       cases e925
                       replace hx925_0 := (HB.out.cell (World.block_lt_of_cell? w _ hx925_0)).trans hx925_0; replace p925 := eq_true p925; replace q925 := eq_true q925
                       go_wp2
                       go_loopg [23, 24] k5 (fun kq v23 v24 w' => ∃ (x23_6 : Bool) (x24_6 : Int), v23 = .bool x23_6 ∧ v24 = .int .i64 x24_6 ∧ Aside0 (foghornlaw20_MendOver.l4 kq t909 l4 a5 t908 x14_3 t914 y916 x19_5 x20_5 x21_5 (Int.tmod (wrap64 ((Int.tmod (rd l4 x21_5) (t908.size : Int)) + (t908.size : Int))) (t908.size : Int)) x23_6 x24_6 = some r) ∧ Aside0 (kq ≤ k5) ∧ Aside0 (Kd.Q (Kd.int .u8) 5 w' w.heap.size (fun k_ => some k_ ≠ (v917 : Value).ownBlock ∧ some k_ ≠ (v923 : Value).ownBlock) (.slice Ao32 x14_3.length co32) x14_3) ∧ Aside0 (Kd.R (Kd.int .u8) 5 w' w.heap.size (fun k_ => some k_ ≠ ((.slice Ao32 x14_3.length co32) : Value).ownBlock ∧ some k_ ≠ (v923 : Value).ownBlock) v917 y916) ∧ Aside0 (Kd.R (Kd.int .u8) 5 w' w.heap.size (fun k_ => some k_ ≠ ((.slice Ao32 x14_3.length co32) : Value).ownBlock ∧ some k_ ≠ (v917 : Value).ownBlock) v923 x19_5) ∧ Aside0 (Kd.R (Kd.int .i64) 3 w' w.heap.size (fun _ => True) u20 x20_5) ∧ Aside0 (Below w.heap.size w w'))
                       case atStart => exact ⟨(false), (0), (by first | rfl | (simp; done) | (simp [*]; done)), (by first | rfl | (simp; done) | (simp [*]; done)), H', ⟨Nat.le_refl _⟩, ⟨by (with_reducible repeat (first | apply Kd.Q_alloc | apply Kd.Q_drewN | apply Kd.Q_drew)); exact HO_14.out⟩, ⟨by (with_reducible repeat (first | apply Kd.R_alloc | apply Kd.R_drewN | apply Kd.R_drew)); exact HO_18.out⟩, ⟨by (with_reducible repeat (first | apply Kd.R_alloc | apply Kd.R_drewN | apply Kd.R_drew)); exact HO_19.out⟩, ⟨by (with_reducible repeat (first | apply Kd.R_alloc | apply Kd.R_drewN | apply Kd.R_drew)); exact HO_20.out⟩, ⟨by repeat (first | (with_reducible first | exact HB.out | apply below_alloc | apply pw_below_drewN | apply below_drew1) | exact HB.out)⟩⟩
                       case round =>
                        clear H'; (try clear c1); (try clear c2); (try clear p2); (try clear q2); (try clear hx2); (try clear c3); (try clear c4); (try clear c5); (try clear p6); (try clear c8); (try clear p9); (try clear q9); (try clear hx9); (try clear c13); (try clear c13b0); (try clear c13b1); (try clear c14); (try clear c14b0); (try clear c14b1); (try clear c15); (try clear c15b0); (try clear c15b1); (try clear c15b2); (try clear c17); (try clear c17b0); (try clear c17b1); (try clear c18); (try clear c18b0); (try clear c18b1); (try clear c18b2); (try clear c21); (try clear c21b0); (try clear c22); (try clear c22b0); (try clear c23); (try clear c23b0); (try clear c24); (try clear p24); (try clear q24); (try clear hx24); (try clear c25); (try clear c25b0); (try clear c25b1); (try clear p26); (try clear q26); (try clear hx26); (try clear p27); (try clear q27); (try clear hx27); (try clear hf27); (try clear c33); (try clear c33b0); (try clear c34); (try clear c34b0); (try clear c34b1); (try clear c34b2); (try clear c35); (try clear c35b0); (try clear c35b1); (try clear c35b2); (try clear c37); (try clear c37b0); (try clear c37b1); (try clear c38); (try clear c38b0); (try clear c38b1); (try clear c40); (try clear c40b0); (try clear c40b1); (try clear c41); (try clear c41b0); (try clear c41b1); (try clear c42); (try clear c49); (try clear c49b0); (try clear c50); (try clear c50b0); (try clear c51); (try clear c51b0); (try clear c51b1); (try clear hx27_0); (try clear hx925_0); (try clear p2); (try clear p24); (try clear p26); (try clear p27); (try clear p6); (try clear p925); (try clear q2); (try clear q24); (try clear q26); (try clear q27); (try clear q925)
                        obtain ⟨x23_6, x24_6, rfl, rfl, HA, HK6, HO_14, HO_18, HO_19, HO_20, HB⟩ := hrel
                        cases gk with
                        | zero => exact absurd HA.out (by simp [foghornlaw20_MendOver.l4])
                        | succ k6 =>
                         have H := HA.out; clear HA
                         simp only [foghornlaw20_MendOver.l4] at H
                         by_cases c52 : x24_6 < (x20_5.length : Int)
                         ·rw [if_pos c52] at H
                          have c52b0 : decide (x24_6 < (x20_5.length : Int)) = true := decide_eq_true c52
                          clear c52
                          by_cases c53 : x23_6 = true
                          ·subst c53
                           have H1 : (foghornlaw20_MendOver.l4 k6 t909 l4 a5 t908 x14_3 t914 y916 x19_5 x20_5 x21_5 (Int.tmod (wrap64 ((Int.tmod (rd l4 x21_5) (t908.size : Int)) + (t908.size : Int))) (t908.size : Int)) true (wrap64 (x24_6 + 1))) = some r := by rw [if_pos rfl] at H; exact H
                           clear H; have H := H1; clear H1
                           as_aux_lemma =>
                            have H' := Aside0.mk H
                            clear H
                            obtain ⟨Ao54, co54, eo54⟩ := Kd.R_slice HO_20.out
                            subst eo54
                            go_wp2
                            first | go_roundg k6 | (simp only [add_plain] at *; go_roundg k6)
                            case measure => have := HJ9.out; have := HJ15.out; have := HK3.out; have := HK4.out; have := HK5.out; have := HK6.out; omega
                            case rel => exact ⟨(true), (wrap64 (x24_6 + 1)), (by first | rfl | (simp; done) | (simp [*]; done)), (by first | rfl | (simp; done) | (simp [*]; done)), H', ⟨by have := HJ9.out; have := HJ15.out; have := HK3.out; have := HK4.out; have := HK5.out; have := HK6.out; omega⟩, ⟨by (with_reducible repeat (first | apply Kd.Q_alloc | apply Kd.Q_drewN | apply Kd.Q_drew)); exact HO_14.out⟩, ⟨by (with_reducible repeat (first | apply Kd.R_alloc | apply Kd.R_drewN | apply Kd.R_drew)); exact HO_18.out⟩, ⟨by (with_reducible repeat (first | apply Kd.R_alloc | apply Kd.R_drewN | apply Kd.R_drew)); exact HO_19.out⟩, ⟨by (with_reducible repeat (first | apply Kd.R_alloc | apply Kd.R_drewN | apply Kd.R_drew)); exact HO_20.out⟩, ⟨by repeat (first | (with_reducible first | exact HB.out | apply below_alloc | apply pw_below_drewN | apply below_drew1) | exact HB.out)⟩⟩
                          ·replace c53 := Bool.eq_false_iff.mpr c53
                           subst c53
                           have H1 : (if 0 ≤ x24_6 then (foghornlaw20_MendOver.l4 k6 t909 l4 a5 t908 x14_3 t914 y916 x19_5 x20_5 x21_5 (Int.tmod (wrap64 ((Int.tmod (rd l4 x21_5) (t908.size : Int)) + (t908.size : Int))) (t908.size : Int)) ((rd x20_5 x24_6) == (Int.tmod (wrap64 ((Int.tmod (rd l4 x21_5) (t908.size : Int)) + (t908.size : Int))) (t908.size : Int))) (wrap64 (x24_6 + 1))) else (none)) = some r := by rw [if_neg (show ¬ (false = true) by decide)] at H; exact H
                           clear H; have H := H1; clear H1
                           by_cases c55 : 0 ≤ x24_6
                           ·rw [if_pos c55] at H
                            have c55b0 : decide (0 ≤ x24_6) = true := decide_eq_true c55
                            clear c55
                            as_aux_lemma =>
                             have H' := Aside0.mk H
                             clear H
                             obtain ⟨Ao56, co56, eo56⟩ := Kd.R_slice HO_20.out
                             subst eo56
                             have p926 : 0 ≤ (x24_6 : Int) := of_decide_eq_true (by first | (with_reducible assumption) | assumption)
                             have q926 : x24_6 < (x20_5.length : Int) := of_decide_eq_true (by first | (with_reducible assumption) | assumption)
                             obtain ⟨ad926, e926, hx926_0⟩ := Kd.at_int (Kd.R_reads' HO_20.out).2.2 x24_6 p926 q926
                             cases e926
                             replace p926 := eq_true p926; replace q926 := eq_true q926
                             go_wp2
                             first | go_roundg k6 | (simp only [add_plain] at *; go_roundg k6)
                             case measure => have := HJ9.out; have := HJ15.out; have := HK3.out; have := HK4.out; have := HK5.out; have := HK6.out; omega
                             case rel => exact ⟨(((rd x20_5 x24_6) == (Int.tmod (wrap64 ((Int.tmod (rd l4 x21_5) (t908.size : Int)) + (t908.size : Int))) (t908.size : Int)))), (wrap64 (x24_6 + 1)), (by first | rfl | (simp; done) | (simp [*]; done)), (by first | rfl | (simp; done) | (simp [*]; done)), H', ⟨by have := HJ9.out; have := HJ15.out; have := HK3.out; have := HK4.out; have := HK5.out; have := HK6.out; omega⟩, ⟨by (with_reducible repeat (first | apply Kd.Q_alloc | apply Kd.Q_drewN | apply Kd.Q_drew)); exact HO_14.out⟩, ⟨by (with_reducible repeat (first | apply Kd.R_alloc | apply Kd.R_drewN | apply Kd.R_drew)); exact HO_18.out⟩, ⟨by (with_reducible repeat (first | apply Kd.R_alloc | apply Kd.R_drewN | apply Kd.R_drew)); exact HO_19.out⟩, ⟨by (with_reducible repeat (first | apply Kd.R_alloc | apply Kd.R_drewN | apply Kd.R_drew)); exact HO_20.out⟩, ⟨by repeat (first | (with_reducible first | exact HB.out | apply below_alloc | apply pw_below_drewN | apply below_drew1) | exact HB.out)⟩⟩
                           ·rw [if_neg c55] at H
                            exact absurd H (by simp)
                         ·rw [if_neg c52] at H
                          have c52b0 : decide (x24_6 < (x20_5.length : Int)) = false := decide_eq_false c52
                          clear c52
                          by_cases c57 : x23_6 = true
                          ·subst c57
                           have H1 : (foghornlaw20_MendOver.l3 k6 t909 l4 a5 t908 x14_3 t914 y916 x19_5 x20_5 (wrap64 (x21_5 + 1))) = some r := by rw [if_pos rfl] at H; exact H
                           clear H; have H := H1; clear H1
                           as_aux_lemma =>
                            have H' := Aside0.mk H
                            clear H
                            obtain ⟨Ao58, co58, eo58⟩ := Kd.R_slice HO_20.out
                            subst eo58
                            go_wp2
                            first | go_roundg k6 | (simp only [add_plain] at *; go_roundg k6)
                            case measure => have := HJ9.out; have := HJ15.out; have := HK3.out; have := HK4.out; have := HK5.out; have := HK6.out; omega
                            case rel => exact ⟨(x19_5), (x20_5), (wrap64 (x21_5 + 1)), (by first | rfl | (simp; done) | (simp [*]; done)), H', ⟨by have := HJ9.out; have := HJ15.out; have := HK3.out; have := HK4.out; have := HK5.out; have := HK6.out; omega⟩, ⟨by (with_reducible repeat (first | apply Kd.Q_alloc | apply Kd.Q_drewN | apply Kd.Q_drew)); exact HO_14.out⟩, ⟨by (with_reducible repeat (first | apply Kd.R_alloc | apply Kd.R_drewN | apply Kd.R_drew)); exact HO_18.out⟩, ⟨by (with_reducible repeat (first | apply Kd.R_alloc | apply Kd.R_drewN | apply Kd.R_drew)); exact HO_19.out⟩, ⟨by (with_reducible repeat (first | apply Kd.R_alloc | apply Kd.R_drewN | apply Kd.R_drew)); exact HO_20.out⟩, ⟨by repeat (first | (with_reducible first | exact HB.out | apply below_alloc | apply pw_below_drewN | apply below_drew1) | exact HB.out)⟩⟩
                          ·replace c57 := Bool.eq_false_iff.mpr c57
                           subst c57
                           have H1 : (if x20_5.length < 17592186044416 then (if 0 ≤ (Int.tmod (wrap64 ((Int.tmod (rd l4 x21_5) (t908.size : Int)) + (t908.size : Int))) (t908.size : Int)) then (if (Int.tmod (wrap64 ((Int.tmod (rd l4 x21_5) (t908.size : Int)) + (t908.size : Int))) (t908.size : Int)) < (x19_5.length : Int) then (foghornlaw20_MendOver.l3 k6 t909 l4 a5 t908 x14_3 t914 y916 (x19_5.set ((Int.tmod (wrap64 ((Int.tmod (rd l4 x21_5) (t908.size : Int)) + (t908.size : Int))) (t908.size : Int)) : Int).toNat a5) (x20_5 ++ [(Int.tmod (wrap64 ((Int.tmod (rd l4 x21_5) (t908.size : Int)) + (t908.size : Int))) (t908.size : Int))]) (wrap64 (x21_5 + 1))) else (none)) else (none)) else (none)) = some r := by rw [if_neg (show ¬ (false = true) by decide)] at H; exact H
                           clear H; have H := H1; clear H1
                           by_cases c59 : x20_5.length < 17592186044416
                           ·rw [if_pos c59] at H
                            have LMc59 := Aside0.mk c59; clear c59
                            obtain ⟨y927, hy927⟩ : ∃ y_ : List Int, y_ = (x20_5 ++ [(Int.tmod (wrap64 ((Int.tmod (rd l4 x21_5) (t908.size : Int)) + (t908.size : Int))) (t908.size : Int))]) := ⟨_, rfl⟩
                            replace H : (if 0 ≤ (Int.tmod (wrap64 ((Int.tmod (rd l4 x21_5) (t908.size : Int)) + (t908.size : Int))) (t908.size : Int)) then (if (Int.tmod (wrap64 ((Int.tmod (rd l4 x21_5) (t908.size : Int)) + (t908.size : Int))) (t908.size : Int)) < (x19_5.length : Int) then (foghornlaw20_MendOver.l3 k6 t909 l4 a5 t908 x14_3 t914 y916 (x19_5.set ((Int.tmod (wrap64 ((Int.tmod (rd l4 x21_5) (t908.size : Int)) + (t908.size : Int))) (t908.size : Int)) : Int).toNat a5) y927 (wrap64 (x21_5 + 1))) else (none)) else (none)) = some r := by first | (rw [hy927]; with_reducible exact H) | (have H2_ := (Option.bind_some _ _).symm.trans H; rw [hy927]; with_reducible exact H2_) | (have H2_ := (Option.bind_some _ _).symm.trans H; with_reducible exact H2_) | with_reducible exact H | (rw [hy927]; exact H) | exact H
                            have Ny927 := Aside0.mk hy927; clear hy927
                            obtain ⟨ji60, hji60⟩ : ∃ j_ : Int, (Int.tmod (wrap64 ((Int.tmod (rd l4 x21_5) (t908.size : Int)) + (t908.size : Int))) (t908.size : Int)) = j_ := ⟨_, rfl⟩
                            replace H : (if 0 ≤ (ji60) then (if (ji60) < (x19_5.length : Int) then (foghornlaw20_MendOver.l3 k6 t909 l4 a5 t908 x14_3 t914 y916 (x19_5.set ((ji60) : Int).toNat a5) y927 (wrap64 (x21_5 + 1))) else (none)) else (none)) = some r := by first | (rw [hji60] at H; exact H) | (simp only [hji60] at H ⊢; exact H)
                            (try rw [hji60] at Ny927)
                            by_cases c61 : 0 ≤ (ji60)
                            ·rw [if_pos c61] at H
                             have c61b0 : decide (0 ≤ (ji60)) = true := decide_eq_true c61
                             clear c61
                             by_cases c62 : (ji60) < (x19_5.length : Int)
                             ·rw [if_pos c62] at H
                              have c62b0 : decide ((ji60) < (x19_5.length : Int)) = true := decide_eq_true c62
                              clear c62
                              obtain ⟨y930, hy930⟩ : ∃ y_ : List Int, y_ = (x19_5.set ((ji60) : Int).toNat a5) := ⟨_, rfl⟩
                              replace H : (foghornlaw20_MendOver.l3 k6 t909 l4 a5 t908 x14_3 t914 y916 y930 y927 (wrap64 (x21_5 + 1))) = some r := by first | (rw [hy930]; with_reducible exact H) | (have H2_ := (Option.bind_some _ _).symm.trans H; rw [hy930]; with_reducible exact H2_) | (have H2_ := (Option.bind_some _ _).symm.trans H; with_reducible exact H2_) | with_reducible exact H | (rw [hy930]; exact H) | exact H
                              have Ny930 := Aside0.mk hy930; clear hy930
                              as_aux_lemma =>
                               have H' := Aside0.mk H
                               clear H
                               obtain ⟨Ao64, co64, eo64⟩ := Kd.R_slice HO_20.out
                               subst eo64
                               go_wp2_with (first | ((with_reducible refine gate_builtin (b := .append) (xs := #[.tmp 142, .tmp 144]) rfl ?_); (try (refine gate_guard (by rfl) ?_; dsimp only)); at_builtin; refine Kd.R_append (Kd.int .i64) (w0 := w) w.heap.size rfl (.tmp 142) (.tmp 144) 60 3 (.int .i64 0) 8 rfl Try.underlying60 info3 rfl (by decide) (by omega) (.slice Ao64 x20_5.length co64) x20_5 (ji60) [.int .i64 (ji60)] (fun _ => True) (fun _ => False) rfl rfl ?aP (fun _ hk => hk.elim) ?aF ?aO ?aB ?aS ?aL ?_; (case aP => exact rfl); (case aB => exact HB.out); (case aF => exact (fun _ _ => trivial)); (case aO => exact HO_20.out); (case aS => exact (below_size HB.out)); (case aL => have := LMc59.out; omega); intro v928 w65 ho hb hg hat; rw [← Ny927.out] at ho; have n0_ := Aside0.mk (Kd.Q_over' HO_14.out (Kd.R_typed HO_20.out) (by decide) hg); have n1_ := Aside0.mk (Kd.R_over' HO_18.out (Kd.R_typed HO_20.out) (by decide) hg); have n2_ := Aside0.mk (Kd.R_over' HO_19.out (Kd.R_typed HO_20.out) (by decide) hg); have n3_ := Aside0.mk (hb); have n4_ := Aside0.mk (ho); clear HO_14 HO_18 HO_19 HB HO_20; have HO_14 := n0_; have HO_18 := n1_; have HO_19 := n2_; have HB := n3_; have HO929 := n4_; clear n0_ n1_ n2_ n3_ n4_ ho hb hg hat; have p63 : 0 ≤ ((ji60) : Int) := of_decide_eq_true (by first | (with_reducible assumption) | assumption); have q63 : ((ji60) : Int) < ((x19_5.length : Int) : Int) := of_decide_eq_true (by first | (with_reducible assumption) | assumption); obtain ⟨go63, co63, eo63, gb63, gl63, cl63, HG63⟩ := Kd.R_form HO_19.out (by omega); (first | cases eo63 | (injection eo63 with ea_ en_ ec_; (first | subst ea_ | (injection ea_ with ea_; subst ea_)); subst ec_; clear en_)); have GB63 := Aside0.mk gb63; have GG63 := Aside0.mk HG63; clear gb63 gl63 HG63; obtain ⟨hx63_0, hf63_0⟩ := Kd.R_celln 0 HO_19.out ((ji60) : Int) p63 q63; replace p63 := eq_true p63; replace q63 := eq_true q63; obtain ⟨hy66_, hz66_⟩ := Kd.R_celln 0 HO_19.out ((ji60) : Int) (of_decide_eq_true (by first | (with_reducible assumption) | assumption)) (of_decide_eq_true (by first | (with_reducible assumption) | assumption)); have HP66 := Kd.R_putg HO_19.out ((ji60) : Int) a5) | ((with_reducible refine gate_store (t := 5) (p := 149) rfl ?_); refine store_event (t := 5) (p := 149) (v := ?vo_w67) (w1 := (w65.setCell ⟨go63, ((ji60) : Int).toNat, none⟩ (.int .u8 a5))) ?hg ?ho ?hn ?hr ?_; (case ho => rfl); (case hg => rfl); (case hn => rfl); (case hr => first | (go_simp; done) | (go_simp; rfl)); intro w67 hw; have hg : w65.grownBy w67 (some go63) := (by rw [hw]; exact HP66.2); have hp_ : Kd.R (Kd.int .u8) 5 w67 w.heap.size (fun k_ => some k_ ≠ (.slice Ao32 x14_3.length co32 : Value).ownBlock ∧ some k_ ≠ (v917 : Value).ownBlock) (.slice (some ⟨go63, 0, none⟩) x19_5.length co63) y930 := (by rw [hw, Ny930.out]; exact HP66.1); clear HP66; have n0_ := Aside0.mk (Kd.Q_after (v := (.slice (some ⟨go63, 0, none⟩) x19_5.length co63)) (v1 := (.slice (some ⟨go63, 0, none⟩) x19_5.length co63)) (ok := (fun k_ => some k_ ≠ (v917 : Value).ownBlock)) HO_14.out hg (.inl rfl)); have n1_ := Aside0.mk (Kd.R_after (v := (.slice (some ⟨go63, 0, none⟩) x19_5.length co63)) (v1 := (.slice (some ⟨go63, 0, none⟩) x19_5.length co63)) (ok := (fun k_ => some k_ ≠ (.slice Ao32 x14_3.length co32 : Value).ownBlock)) HO_18.out hg (.inl rfl)); have n2_ := Aside0.mk (hp_); have n3_ := Aside0.mk (Kd.R_over' (v := (.slice (some ⟨go63, 0, none⟩) x19_5.length co63)) HO929.out (Kd.R_typed HO_19.out) (by decide) hg); have n4_ := Aside0.mk ((by rw [hw]; exact below_set (HB.out) GB63.out : Below w.heap.size w w67)); clear HO_14 HO_18 HO_19 HO929 HB; have HO_14 := n0_; have HO_18 := n1_; have HO_19 := n2_; have HO929 := n3_; have HB := n4_; clear n0_ n1_ n2_ n3_ n4_; clear hg hw hp_))
                               first | go_roundg k6 | (simp only [add_plain] at *; go_roundg k6)
                               case measure => have := HJ9.out; have := HJ15.out; have := HK3.out; have := HK4.out; have := HK5.out; have := HK6.out; omega
                               case rel => exact ⟨(y930), (y927), (wrap64 (x21_5 + 1)), (by first | rfl | (simp; done) | (simp [*]; done)), H', ⟨by have := HJ9.out; have := HJ15.out; have := HK3.out; have := HK4.out; have := HK5.out; have := HK6.out; omega⟩, ⟨by (with_reducible repeat (first | apply Kd.Q_alloc | apply Kd.Q_drewN | apply Kd.Q_drew)); exact HO_14.out⟩, ⟨by (with_reducible repeat (first | apply Kd.R_alloc | apply Kd.R_drewN | apply Kd.R_drew)); exact HO_18.out⟩, ⟨by (with_reducible repeat (first | apply Kd.R_alloc | apply Kd.R_drewN | apply Kd.R_drew)); exact HO_19.out⟩, ⟨by (with_reducible repeat (first | apply Kd.R_alloc | apply Kd.R_drewN | apply Kd.R_drew)); exact HO929.out⟩, ⟨by repeat (first | (with_reducible first | exact HB.out | apply below_alloc | apply pw_below_drewN | apply below_drew1) | exact HB.out)⟩⟩
                             ·rw [if_neg c62] at H
                              exact absurd H (by simp)
                            ·rw [if_neg c61] at H
                             exact absurd H (by simp)
                           ·rw [if_neg c59] at H
                            exact absurd H (by simp)
                     ·rw [if_neg c50] at H
                      exact absurd H (by simp)
                    ·rw [if_neg c49] at H
                     have c49b0 : decide (x21_5 < (l4.length : Int)) = false := decide_eq_false c49
                     clear c49
                     have H' := Aside0.mk H
                     clear H
                     go_wp2
                     go_loopg [25] k5 (fun kq v25 w' => ∃ (x18_6 : List Int) (x25_6 : Int), v25 = .int .i64 x25_6 ∧ Aside0 (foghornlaw20_MendOver.l5 kq t909 t908 x14_3 t914 x18_6 x19_5 x20_5 x25_6 = some r) ∧ Aside0 (kq ≤ k5) ∧ Aside0 (Kd.Q (Kd.int .u8) 5 w' w.heap.size (fun k_ => some k_ ≠ (v917 : Value).ownBlock ∧ some k_ ≠ (v923 : Value).ownBlock) (.slice Ao32 x14_3.length co32) x14_3) ∧ Aside0 (Kd.R (Kd.int .u8) 5 w' w.heap.size (fun k_ => some k_ ≠ ((.slice Ao32 x14_3.length co32) : Value).ownBlock ∧ some k_ ≠ (v923 : Value).ownBlock) v917 x18_6) ∧ Aside0 (Kd.R (Kd.int .u8) 5 w' w.heap.size (fun k_ => some k_ ≠ ((.slice Ao32 x14_3.length co32) : Value).ownBlock ∧ some k_ ≠ (v917 : Value).ownBlock) v923 x19_5) ∧ Aside0 (Kd.R (Kd.int .i64) 3 w' w.heap.size (fun _ => True) u20 x20_5) ∧ Aside0 (Below w.heap.size w w'))
                     case atStart => exact ⟨(y916), (0), (by first | rfl | (simp; done) | (simp [*]; done)), H', ⟨Nat.le_refl _⟩, ⟨by (with_reducible repeat (first | apply Kd.Q_alloc | apply Kd.Q_drewN | apply Kd.Q_drew)); exact HO_14.out⟩, ⟨by (with_reducible repeat (first | apply Kd.R_alloc | apply Kd.R_drewN | apply Kd.R_drew)); exact HO_18.out⟩, ⟨by (with_reducible repeat (first | apply Kd.R_alloc | apply Kd.R_drewN | apply Kd.R_drew)); exact HO_19.out⟩, ⟨by (with_reducible repeat (first | apply Kd.R_alloc | apply Kd.R_drewN | apply Kd.R_drew)); exact HO_20.out⟩, ⟨by repeat (first | (with_reducible first | exact HB.out | apply below_alloc | apply pw_below_drewN | apply below_drew1) | exact HB.out)⟩⟩
                     case round =>
                      clear H'; (try clear c1); (try clear c2); (try clear p2); (try clear q2); (try clear hx2); (try clear c3); (try clear c4); (try clear c5); (try clear c6); (try clear p6); (try clear q6); (try clear hx6); (try clear hf6); (try clear c8); (try clear p9); (try clear q9); (try clear hx9); (try clear c13); (try clear c13b0); (try clear c13b1); (try clear c14); (try clear c14b0); (try clear c14b1); (try clear c15); (try clear c15b0); (try clear c15b1); (try clear c15b2); (try clear c17); (try clear c17b0); (try clear c17b1); (try clear c18); (try clear c18b0); (try clear c18b1); (try clear c18b2); (try clear c21); (try clear c21b0); (try clear c22); (try clear c22b0); (try clear c23); (try clear c23b0); (try clear c24); (try clear p24); (try clear q24); (try clear hx24); (try clear c25); (try clear c25b0); (try clear c25b1); (try clear p26); (try clear q26); (try clear hx26); (try clear p27); (try clear q27); (try clear hx27); (try clear hf27); (try clear c33); (try clear c33b0); (try clear c34); (try clear c34b0); (try clear c34b1); (try clear c34b2); (try clear c35); (try clear c35b0); (try clear c35b1); (try clear c35b2); (try clear c37); (try clear c37b0); (try clear c37b1); (try clear c38); (try clear c38b0); (try clear c38b1); (try clear c40); (try clear c40b0); (try clear c40b1); (try clear c41); (try clear c41b0); (try clear c41b1); (try clear c42); (try clear c49); (try clear c49b0); (try clear c50); (try clear c50b0); (try clear c51); (try clear c51b0); (try clear c51b1); (try clear c52); (try clear c52b0); (try clear c53); (try clear c55); (try clear c55b0); (try clear c57); (try clear c59); (try clear c61); (try clear c61b0); (try clear c62); (try clear c62b0); (try clear p63); (try clear q63); (try clear hx63); (try clear hf63); (try clear p64); (try clear hx27_0); (try clear hx63_0); (try clear hx925_0); (try clear hx926_0); (try clear p2); (try clear p24); (try clear p26); (try clear p27); (try clear p6); (try clear p63); (try clear p9); (try clear p925); (try clear p926); (try clear q2); (try clear q24); (try clear q26); (try clear q27); (try clear q63); (try clear q9); (try clear q925); (try clear q926)
                      obtain ⟨x18_6, x25_6, rfl, HA, HK6, HO_14, HO_18, HO_19, HO_20, HB⟩ := hrel
                      cases gk with
                      | zero => exact absurd HA.out (by simp [foghornlaw20_MendOver.l5])
                      | succ k6 =>
                       have H := HA.out; clear HA
                       simp only [foghornlaw20_MendOver.l5] at H
                       by_cases c68 : x25_6 < (t908.size : Int)
                       ·rw [if_pos c68] at H
                        have c68b0 : decide (x25_6 < (t908.size : Int)) = true := decide_eq_true c68
                        clear c68
                        by_cases c69 : 0 ≤ x25_6
                        ·rw [if_pos c69] at H
                         have c69b0 : decide (0 ≤ x25_6) = true := decide_eq_true c69
                         clear c69
                         by_cases c70 : x25_6 < (x14_3.length : Int)
                         ·rw [if_pos c70] at H
                          have c70b0 : decide (x25_6 < (x14_3.length : Int)) = true := decide_eq_true c70
                          clear c70
                          by_cases c71 : x25_6 < (t914.size : Int)
                          ·rw [if_pos c71] at H
                           have c71b0 : decide (x25_6 < (t914.size : Int)) = true := decide_eq_true c71
                           clear c71
                           by_cases c73 : x25_6 < (x18_6.length : Int)
                           ·rw [if_pos c73] at H
                            have c73b0 : decide (x25_6 < (x18_6.length : Int)) = true := decide_eq_true c73
                            clear c73
                            obtain ⟨y932, hy932⟩ : ∃ y_ : List Int, y_ = (x18_6.set (x25_6 : Int).toNat (Go.bits .xor .u8 (rd x14_3 x25_6) (bt t914 x25_6))) := ⟨_, rfl⟩
                            replace H : (foghornlaw20_MendOver.l5 k6 t909 t908 x14_3 t914 y932 x19_5 x20_5 (wrap64 (x25_6 + 1))) = some r := by first | (rw [hy932]; with_reducible exact H) | (have H2_ := (Option.bind_some _ _).symm.trans H; rw [hy932]; with_reducible exact H2_) | (have H2_ := (Option.bind_some _ _).symm.trans H; with_reducible exact H2_) | with_reducible exact H | (rw [hy932]; exact H) | exact H
                            have Ny932 := Aside0.mk hy932; clear hy932
                            as_aux_lemma =>
                             have H' := Aside0.mk H
                             clear H
                             try go_wp2
                             have n0_ := Aside0.mk (Kd.Q_drew HO_14.out); have n1_ := Aside0.mk (Kd.R_drew HO_18.out); have n2_ := Aside0.mk (Kd.R_drew HO_19.out); have n3_ := Aside0.mk (Kd.R_drew HO_20.out); have n4_ := Aside0.mk (below_drew1 HB.out); clear HO_14; clear HO_18; clear HO_19; clear HO_20; clear HB; have HO_14 := n0_; have HO_18 := n1_; have HO_19 := n2_; have HO_20 := n3_; have HB := n4_; clear n0_ n1_ n2_ n3_ n4_
                             have p931 : 0 ≤ (x25_6 : Int) := of_decide_eq_true (by first | (with_reducible assumption) | assumption)
                             have q931 : x25_6 < (x14_3.length : Int) := of_decide_eq_true (by first | (with_reducible assumption) | assumption)
                             obtain ⟨ad931, e931, hx931_0⟩ := Kd.at_int (Kd.Q_reads' HO_14.out).2.2 x25_6 p931 q931
                             cases e931
                             replace p931 := eq_true p931; replace q931 := eq_true q931
                             have p72 : 0 ≤ (x25_6 : Int) := of_decide_eq_true (by first | (with_reducible assumption) | assumption)
                             have q72 : x25_6 < (t914.size : Int) := of_decide_eq_true (by first | (with_reducible assumption) | assumption)
                             have hx72 := bt_at t914 x25_6; replace p72 := eq_true p72; replace q72 := eq_true q72
                             have p74 : 0 ≤ (x25_6 : Int) := of_decide_eq_true (by first | (with_reducible assumption) | assumption)
                             have q74 : (x25_6 : Int) < ((x18_6.length : Int) : Int) := of_decide_eq_true (by first | (with_reducible assumption) | assumption)
                             obtain ⟨go74, co74, eo74, gb74, gl74, cl74, HG74⟩ := Kd.R_form HO_18.out (by omega)
                             (first | cases eo74 | (injection eo74 with ea_ en_ ec_; (first | subst ea_ | (injection ea_ with ea_; subst ea_)); subst ec_; clear en_))
                             have GB74 := Aside0.mk gb74; have GG74 := Aside0.mk HG74; clear gb74 gl74 HG74
                             obtain ⟨hx74_0, hf74_0⟩ := Kd.R_celln 0 HO_18.out (x25_6 : Int) p74 q74
                             replace p74 := eq_true p74; replace q74 := eq_true q74; have HP76 := Kd.R_putn HO_18.out (x25_6 : Int) (Go.bits .xor .u8 (rd x14_3 x25_6) (bt t914 x25_6))
                             rw [← Ny932.out] at HP76
                             have HQ76 := Aside0.mk HP76; clear HP76
                             refine start_ (n := 12) (S := fun w' => w'.cell? (ad931.add (x25_6).toNat) = some (.int .u8 (rd x14_3 x25_6))) (ds := [11]) #[false, false, false, false, false, false, false, false, false, false, false, false] (by kernel_rfl) rfl rfl (hx931_0) (fun hHeld => ?_); refine with_tabW foghornlaw20_MendOver.tab35 foghornlaw20_MendOver.bits35 (fun HT_ HW_ => ?_)
                             generalize wr.drew = w75 at HO_14 HO_18 HO_19 HO_20 HB GG74 HQ76 hf74_0 hx74_0 hx931_0 hHeld ⊢
                             refine pure_ (i := 0) (N := some 156) (v := ?_) (a' := ?_) Dn0_ rfl rfl (any_of HT_.out (by kernel_rfl)) (fun _ _ _ h => h) (Or.inl ⟨by rfl, ?_⟩) ?_ ?_; rotate_left; (focus (intro w'; go_simp; with_reducible rfl)); rotate_left; (focus (simp only [Act.put, List.setIfInBounds_toArray, List.set_cons_zero, List.set_cons_succ, i64_w, i32_w]; rfl))
                             refine pure_ (i := 1) (N := some 157) (v := ?_) (a' := ?_) Dn1_ rfl rfl (any_of HT_.out (by kernel_rfl)) (fun _ _ _ h => h) (Or.inl ⟨by rfl, ?_⟩) ?_ ?_; rotate_left; (focus (intro w'; go_simp; with_reducible rfl)); rotate_left; (focus (simp only [Act.put, List.setIfInBounds_toArray, List.set_cons_zero, List.set_cons_succ, i64_w, i32_w]; rfl))
                             refine pure_ (i := 2) (N := some 158) (v := ?_) (a' := ?_) Dn2_ rfl rfl (any_of HT_.out (by kernel_rfl)) (fun _ _ _ h => h) (Or.inl ⟨by rfl, ?_⟩) ?_ ?_; rotate_left; (focus (intro w'; go_simp; with_reducible rfl)); rotate_left; (focus (simp only [Act.put, List.setIfInBounds_toArray, List.set_cons_zero, List.set_cons_succ, i64_w, i32_w]; rfl))
                             refine pure_ (i := 3) (N := some 159) (v := ?_) (a' := ?_) Dn3_ rfl rfl (any_of HT_.out (by kernel_rfl)) (fun _ _ _ h => h) (Or.inl ⟨by rfl, ?_⟩) ?_ ?_; rotate_left; (focus (intro w'; go_simp; with_reducible rfl)); rotate_left; (focus (simp only [Act.put, List.setIfInBounds_toArray, List.set_cons_zero, List.set_cons_succ, i64_w, i32_w]; rfl))
                             refine pure_ (i := 4) (N := some 160) (v := ?_) (a' := ?_) Dn4_ rfl rfl (any_of HT_.out (by kernel_rfl)) (fun _ _ _ h => h) (Or.inl ⟨by rfl, ?_⟩) ?_ ?_; rotate_left; (focus (intro w'; go_simp; with_reducible rfl)); rotate_left; (focus (simp only [Act.put, List.setIfInBounds_toArray, List.set_cons_zero, List.set_cons_succ, i64_w, i32_w]; rfl))
                             refine pure_ (i := 6) (N := some 162) (v := ?_) (a' := ?_) Dn5_ rfl rfl (any_of HT_.out (by kernel_rfl)) (fun _ _ _ h => h) (Or.inl ⟨by rfl, ?_⟩) ?_ ?_; rotate_left; (focus (intro w'; go_simp; with_reducible rfl)); rotate_left; (focus (simp only [Act.put, List.setIfInBounds_toArray, List.set_cons_zero, List.set_cons_succ, i64_w, i32_w]; rfl))
                             refine pure_ (i := 7) (N := some 163) (v := ?_) (a' := ?_) Dn6_ rfl rfl (any_of HT_.out (by kernel_rfl)) (fun _ _ _ h => h) (Or.inl ⟨by rfl, ?_⟩) ?_ ?_; rotate_left; (focus (intro w'; go_simp; with_reducible rfl)); rotate_left; (focus (simp only [Act.put, List.setIfInBounds_toArray, List.set_cons_zero, List.set_cons_succ, i64_w, i32_w]; rfl))
                             refine take_ (i := 5) (N := some 161) (v := ?_) (a' := ?_) Dn7_ rfl rfl (take_ofW HT_.out HW_.out (by kernel_rfl)) (fun _ _ _ h => h) (Or.inl ⟨by rfl, ?_⟩) hHeld ?_ ?_
                             rotate_left
                             ·intro w' s0
                              go_simp
                              with_reducible rfl
                             rotate_left
                             ·simp only [Act.put, List.setIfInBounds_toArray, List.set_cons_zero, List.set_cons_succ, i64_w, i32_w]
                              rfl
                             refine take_ (i := 8) (N := some 164) (v := ?_) (a' := ?_) Dn8_ rfl rfl (take_ofW HT_.out HW_.out (by kernel_rfl)) (fun _ _ _ h => h) (Or.inl ⟨by rfl, ?_⟩) hHeld ?_ ?_
                             rotate_left
                             ·intro w' s0
                              go_simp
                              with_reducible rfl
                             rotate_left
                             ·simp only [Act.put, List.setIfInBounds_toArray, List.set_cons_zero, List.set_cons_succ, i64_w, i32_w]
                              rfl
                             refine pure_ (i := 9) (N := some 165) (v := ?_) (a' := ?_) Dn9_ rfl rfl (any_of HT_.out (by kernel_rfl)) (fun _ _ _ h => h) (Or.inl ⟨by rfl, ?_⟩) ?_ ?_; rotate_left; (focus (intro w'; go_simp; with_reducible rfl)); rotate_left; (focus (simp only [Act.put, List.setIfInBounds_toArray, List.set_cons_zero, List.set_cons_succ, i64_w, i32_w]; rfl))
                             refine pure_ (i := 10) (N := some 166) (v := ?_) (a' := ?_) Dn10_ rfl rfl (any_of HT_.out (by kernel_rfl)) (fun _ _ _ h => h) (Or.inl ⟨by rfl, ?_⟩) ?_ ?_; rotate_left; (focus (intro w'; go_simp; with_reducible rfl)); rotate_left; (focus (simp only [Act.put, List.setIfInBounds_toArray, List.set_cons_zero, List.set_cons_succ, i64_w, i32_w]; rfl))
                             refine last_ (i := 11) (N := none) #[true, true, true, true, true, true, true, true, true, true, true, true] rfl rfl (one_of HT_.out (by kernel_rfl)) (by decide) (fun K hK => ?_)
                             refine skip_ (w1 := ?_) (by rfl) rfl ?_ ?_
                             rotate_left
                             ·go_simp
                              rfl
                             refine hK.out _ _ ?_
                             clear hK K
                             refine done_ (done_of HT_.out (by kernel_rfl)) ?_
                             try go_wp2
                             first | go_roundg k6 | (simp only [add_plain] at *; go_roundg k6)
                             case measure => have := HJ9.out; have := HJ15.out; have := HK3.out; have := HK4.out; have := HK5.out; have := HK6.out; omega
                             case rel => exact ⟨(y932), (wrap64 (x25_6 + 1)), (by first | rfl | (simp; done) | (simp [*]; done)), H', ⟨by have := HJ9.out; have := HJ15.out; have := HK3.out; have := HK4.out; have := HK5.out; have := HK6.out; omega⟩, ⟨by (with_reducible repeat (first | apply Kd.Q_alloc | apply Kd.Q_drewN | apply Kd.Q_drew)); exact Kd.Q_mono (Kd.Q_far (p := ⟨go74, (x25_6 : Int).toNat, none⟩) (Kd.Q_mono HO_14.out (fun k_ hk => (⟨hk, fun e_ => hk.1 (by rw [e_]; rfl)⟩ : _ ∧ k_ ≠ go74))) (fun _ hk => hk.2) (.int .u8 (Go.bits .xor .u8 (rd x14_3 x25_6) (bt t914 x25_6)))) (fun _ hk => ⟨hk.1.1, hk.1.2⟩)⟩, ⟨by (with_reducible repeat (first | apply Kd.R_alloc | apply Kd.R_drewN | apply Kd.R_drew)); exact HQ76.out⟩, ⟨by (with_reducible repeat (first | apply Kd.R_alloc | apply Kd.R_drewN | apply Kd.R_drew)); exact Kd.R_mono (Kd.R_far (p := ⟨go74, (x25_6 : Int).toNat, none⟩) (Kd.R_mono HO_19.out (fun k_ hk => (⟨hk, fun e_ => hk.2 (by rw [e_]; rfl)⟩ : _ ∧ k_ ≠ go74))) (fun _ hk => hk.2) (.int .u8 (Go.bits .xor .u8 (rd x14_3 x25_6) (bt t914 x25_6)))) (fun _ hk => ⟨hk.1.1, hk.1.2⟩)⟩, ⟨by (with_reducible repeat (first | apply Kd.R_alloc | apply Kd.R_drewN | apply Kd.R_drew)); exact Kd.R_mono (Kd.R_far (p := ⟨go74, (x25_6 : Int).toNat, none⟩) (Kd.R_types HO_20.out GG74.out (by decide)) (fun _ hk => hk.2) (.int .u8 (Go.bits .xor .u8 (rd x14_3 x25_6) (bt t914 x25_6)))) (fun _ hk => trivial)⟩, ⟨by repeat (first | (with_reducible first | exact HB.out | apply below_alloc | apply pw_below_drewN | apply below_drew1 | refine below_set ?_ GB74.out) | exact HB.out)⟩⟩
                           ·rw [if_neg c73] at H
                            exact absurd H (by simp)
                          ·rw [if_neg c71] at H
                           exact absurd H (by simp)
                         ·rw [if_neg c70] at H
                          exact absurd H (by simp)
                        ·rw [if_neg c69] at H
                         exact absurd H (by simp)
                       ·rw [if_neg c68] at H
                        have c68b0 : decide (x25_6 < (t908.size : Int)) = false := decide_eq_false c68
                        clear c68; replace H := Option.bind_eq_some_iff.mp H
                        obtain ⟨⟨t933, t934, t937, t940⟩, A770, H⟩ := H
                        replace H : ((mend_Mend.f k6 (strOfNums x18_6) t909 x20_5).bind fun bt942 => ((mend_Mend.f k6 (strOfNums x19_5) t909 x20_5).bind fun bt951 => ((mend_All.f k6 (([strOfNums x14_3, t908, strOfNums x18_6] : List ByteArray)) t909 (([x20_5, [], x20_5] : List (List Int)))).bind fun bt966 => (if t940 = bt942.2.2.2 then (if t940 = bt951.2.2.2 then (if bt966.2.2 = 0 then (if (bt966.1.length : Int) = 3 then (if t933.toList = bt951.1.toList then (if 0 < (bt966.1.length : Int) then (if ((rd_T64 bt966.1 0).f0).toList = t933.toList then (if 1 < (bt966.1.length : Int) then (if ((rd_T64 bt966.1 1).f0).toList = t908.toList then (if 2 < (bt966.1.length : Int) then (if ((rd_T64 bt966.1 2).f0).toList = bt942.1.toList then (if (((bt966.2.1.length : Int) == 0) != (t940 == 0)) = true then (foghornlaw20_MendOver.j8 k6 t908 t914 t940 true t933 t934 t937 bt942.1 bt942.2.1 bt942.2.2.1 bt951.1 bt951.2.1 bt951.2.2.1) else (if (bt966.2.1.length : Int) = 0 then (foghornlaw20_MendOver.j8 k6 t908 t914 t940 false t933 t934 t937 bt942.1 bt942.2.1 bt942.2.2.1 bt951.1 bt951.2.1 bt951.2.2.1) else (foghornlaw20_MendOver.j8 k6 t908 t914 t940 ((bt966.2.1.length : Int) != 2) t933 t934 t937 bt942.1 bt942.2.1 bt942.2.2.1 bt951.1 bt951.2.1 bt951.2.2.1))) else (foghornlaw20_MendOver.j8 k6 t908 t914 t940 true t933 t934 t937 bt942.1 bt942.2.1 bt942.2.2.1 bt951.1 bt951.2.1 bt951.2.2.1)) else (none)) else (foghornlaw20_MendOver.j8 k6 t908 t914 t940 true t933 t934 t937 bt942.1 bt942.2.1 bt942.2.2.1 bt951.1 bt951.2.1 bt951.2.2.1)) else (none)) else (foghornlaw20_MendOver.j8 k6 t908 t914 t940 true t933 t934 t937 bt942.1 bt942.2.1 bt942.2.2.1 bt951.1 bt951.2.1 bt951.2.2.1)) else (none)) else (foghornlaw20_MendOver.j8 k6 t908 t914 t940 true t933 t934 t937 bt942.1 bt942.2.1 bt942.2.2.1 bt951.1 bt951.2.1 bt951.2.2.1)) else (foghornlaw20_MendOver.j8 k6 t908 t914 t940 true t933 t934 t937 bt942.1 bt942.2.1 bt942.2.2.1 bt951.1 bt951.2.1 bt951.2.2.1)) else (foghornlaw20_MendOver.j8 k6 t908 t914 t940 true t933 t934 t937 bt942.1 bt942.2.1 bt942.2.2.1 bt951.1 bt951.2.1 bt951.2.2.1)) else (foghornlaw20_MendOver.j8 k6 t908 t914 t940 true t933 t934 t937 bt942.1 bt942.2.1 bt942.2.2.1 bt951.1 bt951.2.1 bt951.2.2.1)) else (foghornlaw20_MendOver.j8 k6 t908 t914 t940 true t933 t934 t937 bt942.1 bt942.2.1 bt942.2.2.1 bt951.1 bt951.2.1 bt951.2.2.1))))) = some r := H
                        have A77 := Aside0.mk A770; clear A770; replace H := Option.bind_eq_some_iff.mp H
                        obtain ⟨⟨t942, t943, t946, t949⟩, A780, H⟩ := H
                        replace H : ((mend_Mend.f k6 (strOfNums x19_5) t909 x20_5).bind fun bt951 => ((mend_All.f k6 (([strOfNums x14_3, t908, strOfNums x18_6] : List ByteArray)) t909 (([x20_5, [], x20_5] : List (List Int)))).bind fun bt966 => (if t940 = t949 then (if t940 = bt951.2.2.2 then (if bt966.2.2 = 0 then (if (bt966.1.length : Int) = 3 then (if t933.toList = bt951.1.toList then (if 0 < (bt966.1.length : Int) then (if ((rd_T64 bt966.1 0).f0).toList = t933.toList then (if 1 < (bt966.1.length : Int) then (if ((rd_T64 bt966.1 1).f0).toList = t908.toList then (if 2 < (bt966.1.length : Int) then (if ((rd_T64 bt966.1 2).f0).toList = t942.toList then (if (((bt966.2.1.length : Int) == 0) != (t940 == 0)) = true then (foghornlaw20_MendOver.j8 k6 t908 t914 t940 true t933 t934 t937 t942 t943 t946 bt951.1 bt951.2.1 bt951.2.2.1) else (if (bt966.2.1.length : Int) = 0 then (foghornlaw20_MendOver.j8 k6 t908 t914 t940 false t933 t934 t937 t942 t943 t946 bt951.1 bt951.2.1 bt951.2.2.1) else (foghornlaw20_MendOver.j8 k6 t908 t914 t940 ((bt966.2.1.length : Int) != 2) t933 t934 t937 t942 t943 t946 bt951.1 bt951.2.1 bt951.2.2.1))) else (foghornlaw20_MendOver.j8 k6 t908 t914 t940 true t933 t934 t937 t942 t943 t946 bt951.1 bt951.2.1 bt951.2.2.1)) else (none)) else (foghornlaw20_MendOver.j8 k6 t908 t914 t940 true t933 t934 t937 t942 t943 t946 bt951.1 bt951.2.1 bt951.2.2.1)) else (none)) else (foghornlaw20_MendOver.j8 k6 t908 t914 t940 true t933 t934 t937 t942 t943 t946 bt951.1 bt951.2.1 bt951.2.2.1)) else (none)) else (foghornlaw20_MendOver.j8 k6 t908 t914 t940 true t933 t934 t937 t942 t943 t946 bt951.1 bt951.2.1 bt951.2.2.1)) else (foghornlaw20_MendOver.j8 k6 t908 t914 t940 true t933 t934 t937 t942 t943 t946 bt951.1 bt951.2.1 bt951.2.2.1)) else (foghornlaw20_MendOver.j8 k6 t908 t914 t940 true t933 t934 t937 t942 t943 t946 bt951.1 bt951.2.1 bt951.2.2.1)) else (foghornlaw20_MendOver.j8 k6 t908 t914 t940 true t933 t934 t937 t942 t943 t946 bt951.1 bt951.2.1 bt951.2.2.1)) else (foghornlaw20_MendOver.j8 k6 t908 t914 t940 true t933 t934 t937 t942 t943 t946 bt951.1 bt951.2.1 bt951.2.2.1)))) = some r := H
                        have A78 := Aside0.mk A780; clear A780; replace H := Option.bind_eq_some_iff.mp H
                        obtain ⟨⟨t951, t952, t955, t958⟩, A790, H⟩ := H
                        replace H : ((mend_All.f k6 (([strOfNums x14_3, t908, strOfNums x18_6] : List ByteArray)) t909 (([x20_5, [], x20_5] : List (List Int)))).bind fun bt966 => (if t940 = t949 then (if t940 = t958 then (if bt966.2.2 = 0 then (if (bt966.1.length : Int) = 3 then (if t933.toList = t951.toList then (if 0 < (bt966.1.length : Int) then (if ((rd_T64 bt966.1 0).f0).toList = t933.toList then (if 1 < (bt966.1.length : Int) then (if ((rd_T64 bt966.1 1).f0).toList = t908.toList then (if 2 < (bt966.1.length : Int) then (if ((rd_T64 bt966.1 2).f0).toList = t942.toList then (if (((bt966.2.1.length : Int) == 0) != (t940 == 0)) = true then (foghornlaw20_MendOver.j8 k6 t908 t914 t940 true t933 t934 t937 t942 t943 t946 t951 t952 t955) else (if (bt966.2.1.length : Int) = 0 then (foghornlaw20_MendOver.j8 k6 t908 t914 t940 false t933 t934 t937 t942 t943 t946 t951 t952 t955) else (foghornlaw20_MendOver.j8 k6 t908 t914 t940 ((bt966.2.1.length : Int) != 2) t933 t934 t937 t942 t943 t946 t951 t952 t955))) else (foghornlaw20_MendOver.j8 k6 t908 t914 t940 true t933 t934 t937 t942 t943 t946 t951 t952 t955)) else (none)) else (foghornlaw20_MendOver.j8 k6 t908 t914 t940 true t933 t934 t937 t942 t943 t946 t951 t952 t955)) else (none)) else (foghornlaw20_MendOver.j8 k6 t908 t914 t940 true t933 t934 t937 t942 t943 t946 t951 t952 t955)) else (none)) else (foghornlaw20_MendOver.j8 k6 t908 t914 t940 true t933 t934 t937 t942 t943 t946 t951 t952 t955)) else (foghornlaw20_MendOver.j8 k6 t908 t914 t940 true t933 t934 t937 t942 t943 t946 t951 t952 t955)) else (foghornlaw20_MendOver.j8 k6 t908 t914 t940 true t933 t934 t937 t942 t943 t946 t951 t952 t955)) else (foghornlaw20_MendOver.j8 k6 t908 t914 t940 true t933 t934 t937 t942 t943 t946 t951 t952 t955)) else (foghornlaw20_MendOver.j8 k6 t908 t914 t940 true t933 t934 t937 t942 t943 t946 t951 t952 t955))) = some r := H
                        have A79 := Aside0.mk A790; clear A790
                        obtain ⟨y960, hy960⟩ : ∃ y_ : List ByteArray, y_ = (([strOfNums x14_3, t908, strOfNums x18_6] : List ByteArray)) := ⟨_, rfl⟩
                        replace H : ((mend_All.f k6 y960 t909 (([x20_5, [], x20_5] : List (List Int)))).bind fun bt966 => (if t940 = t949 then (if t940 = t958 then (if bt966.2.2 = 0 then (if (bt966.1.length : Int) = 3 then (if t933.toList = t951.toList then (if 0 < (bt966.1.length : Int) then (if ((rd_T64 bt966.1 0).f0).toList = t933.toList then (if 1 < (bt966.1.length : Int) then (if ((rd_T64 bt966.1 1).f0).toList = t908.toList then (if 2 < (bt966.1.length : Int) then (if ((rd_T64 bt966.1 2).f0).toList = t942.toList then (if (((bt966.2.1.length : Int) == 0) != (t940 == 0)) = true then (foghornlaw20_MendOver.j8 k6 t908 t914 t940 true t933 t934 t937 t942 t943 t946 t951 t952 t955) else (if (bt966.2.1.length : Int) = 0 then (foghornlaw20_MendOver.j8 k6 t908 t914 t940 false t933 t934 t937 t942 t943 t946 t951 t952 t955) else (foghornlaw20_MendOver.j8 k6 t908 t914 t940 ((bt966.2.1.length : Int) != 2) t933 t934 t937 t942 t943 t946 t951 t952 t955))) else (foghornlaw20_MendOver.j8 k6 t908 t914 t940 true t933 t934 t937 t942 t943 t946 t951 t952 t955)) else (none)) else (foghornlaw20_MendOver.j8 k6 t908 t914 t940 true t933 t934 t937 t942 t943 t946 t951 t952 t955)) else (none)) else (foghornlaw20_MendOver.j8 k6 t908 t914 t940 true t933 t934 t937 t942 t943 t946 t951 t952 t955)) else (none)) else (foghornlaw20_MendOver.j8 k6 t908 t914 t940 true t933 t934 t937 t942 t943 t946 t951 t952 t955)) else (foghornlaw20_MendOver.j8 k6 t908 t914 t940 true t933 t934 t937 t942 t943 t946 t951 t952 t955)) else (foghornlaw20_MendOver.j8 k6 t908 t914 t940 true t933 t934 t937 t942 t943 t946 t951 t952 t955)) else (foghornlaw20_MendOver.j8 k6 t908 t914 t940 true t933 t934 t937 t942 t943 t946 t951 t952 t955)) else (foghornlaw20_MendOver.j8 k6 t908 t914 t940 true t933 t934 t937 t942 t943 t946 t951 t952 t955))) = some r := by first | (rw [hy960]; with_reducible exact H) | (have H2_ := (Option.bind_some _ _).symm.trans H; rw [hy960]; with_reducible exact H2_) | (have H2_ := (Option.bind_some _ _).symm.trans H; with_reducible exact H2_) | with_reducible exact H | (rw [hy960]; exact H) | exact H
                        have Ny960 := Aside0.mk hy960; clear hy960
                        obtain ⟨y963, hy963⟩ : ∃ y_ : List (List Int), y_ = (([x20_5, [], x20_5] : List (List Int))) := ⟨_, rfl⟩
                        replace H : ((mend_All.f k6 y960 t909 y963).bind fun bt966 => (if t940 = t949 then (if t940 = t958 then (if bt966.2.2 = 0 then (if (bt966.1.length : Int) = 3 then (if t933.toList = t951.toList then (if 0 < (bt966.1.length : Int) then (if ((rd_T64 bt966.1 0).f0).toList = t933.toList then (if 1 < (bt966.1.length : Int) then (if ((rd_T64 bt966.1 1).f0).toList = t908.toList then (if 2 < (bt966.1.length : Int) then (if ((rd_T64 bt966.1 2).f0).toList = t942.toList then (if (((bt966.2.1.length : Int) == 0) != (t940 == 0)) = true then (foghornlaw20_MendOver.j8 k6 t908 t914 t940 true t933 t934 t937 t942 t943 t946 t951 t952 t955) else (if (bt966.2.1.length : Int) = 0 then (foghornlaw20_MendOver.j8 k6 t908 t914 t940 false t933 t934 t937 t942 t943 t946 t951 t952 t955) else (foghornlaw20_MendOver.j8 k6 t908 t914 t940 ((bt966.2.1.length : Int) != 2) t933 t934 t937 t942 t943 t946 t951 t952 t955))) else (foghornlaw20_MendOver.j8 k6 t908 t914 t940 true t933 t934 t937 t942 t943 t946 t951 t952 t955)) else (none)) else (foghornlaw20_MendOver.j8 k6 t908 t914 t940 true t933 t934 t937 t942 t943 t946 t951 t952 t955)) else (none)) else (foghornlaw20_MendOver.j8 k6 t908 t914 t940 true t933 t934 t937 t942 t943 t946 t951 t952 t955)) else (none)) else (foghornlaw20_MendOver.j8 k6 t908 t914 t940 true t933 t934 t937 t942 t943 t946 t951 t952 t955)) else (foghornlaw20_MendOver.j8 k6 t908 t914 t940 true t933 t934 t937 t942 t943 t946 t951 t952 t955)) else (foghornlaw20_MendOver.j8 k6 t908 t914 t940 true t933 t934 t937 t942 t943 t946 t951 t952 t955)) else (foghornlaw20_MendOver.j8 k6 t908 t914 t940 true t933 t934 t937 t942 t943 t946 t951 t952 t955)) else (foghornlaw20_MendOver.j8 k6 t908 t914 t940 true t933 t934 t937 t942 t943 t946 t951 t952 t955))) = some r := by first | (rw [hy963]; with_reducible exact H) | (have H2_ := (Option.bind_some _ _).symm.trans H; rw [hy963]; with_reducible exact H2_) | (have H2_ := (Option.bind_some _ _).symm.trans H; with_reducible exact H2_) | with_reducible exact H | (rw [hy963]; exact H) | exact H
                        have Ny963 := Aside0.mk hy963; clear hy963; replace H := Option.bind_eq_some_iff.mp H
                        obtain ⟨⟨t966, t967, t968⟩, A800, H⟩ := H
                        replace H : (if t940 = t949 then (if t940 = t958 then (if t968 = 0 then (if (t966.length : Int) = 3 then (if t933.toList = t951.toList then (if 0 < (t966.length : Int) then (if ((rd_T64 t966 0).f0).toList = t933.toList then (if 1 < (t966.length : Int) then (if ((rd_T64 t966 1).f0).toList = t908.toList then (if 2 < (t966.length : Int) then (if ((rd_T64 t966 2).f0).toList = t942.toList then (if (((t967.length : Int) == 0) != (t940 == 0)) = true then (foghornlaw20_MendOver.j8 k6 t908 t914 t940 true t933 t934 t937 t942 t943 t946 t951 t952 t955) else (if (t967.length : Int) = 0 then (foghornlaw20_MendOver.j8 k6 t908 t914 t940 false t933 t934 t937 t942 t943 t946 t951 t952 t955) else (foghornlaw20_MendOver.j8 k6 t908 t914 t940 ((t967.length : Int) != 2) t933 t934 t937 t942 t943 t946 t951 t952 t955))) else (foghornlaw20_MendOver.j8 k6 t908 t914 t940 true t933 t934 t937 t942 t943 t946 t951 t952 t955)) else (none)) else (foghornlaw20_MendOver.j8 k6 t908 t914 t940 true t933 t934 t937 t942 t943 t946 t951 t952 t955)) else (none)) else (foghornlaw20_MendOver.j8 k6 t908 t914 t940 true t933 t934 t937 t942 t943 t946 t951 t952 t955)) else (none)) else (foghornlaw20_MendOver.j8 k6 t908 t914 t940 true t933 t934 t937 t942 t943 t946 t951 t952 t955)) else (foghornlaw20_MendOver.j8 k6 t908 t914 t940 true t933 t934 t937 t942 t943 t946 t951 t952 t955)) else (foghornlaw20_MendOver.j8 k6 t908 t914 t940 true t933 t934 t937 t942 t943 t946 t951 t952 t955)) else (foghornlaw20_MendOver.j8 k6 t908 t914 t940 true t933 t934 t937 t942 t943 t946 t951 t952 t955)) else (foghornlaw20_MendOver.j8 k6 t908 t914 t940 true t933 t934 t937 t942 t943 t946 t951 t952 t955)) = some r := H
                        have A80 := Aside0.mk A800; clear A800; have HC81 := Aside0.mk H; clear H; have hcv82 := Kd.C_string (P := Try.prog) (A := Ao32) (c := co32) Try.underlying29 Try.underlying5 Try.underlying9 (Kd.Q_reads' HO_14.out).2.2
                        obtain ⟨Ao83, co83, eo83⟩ := Kd.R_slice HO_20.out
                        subst eo83
                        go_upto_region 40 with (first | ((with_reducible refine gate_callee (f := 51) rfl ?_); refine goesL_ (some 172) rfl rfl Try.func51 (by kernel_rfl) rfl #[.string (strOfNums x14_3), .int .i64 t909, .slice Ao83 x20_5.length co83] rfl (by (try simp only [List.map_toArray, List.map_cons, List.map_nil]); first | done | rfl | (simp only [List.length_drop, List.length_take]; rfl)) ?_; (with_reducible refine (mend_Mend.calls k6 (strOfNums x14_3) t909 _ _ x20_5 t933 t934 t937 t940 _ ?side1 ?side2 A77.out).mono ?_); (case side1 => repeat (first | exact (Kd.R_reads' HO_20.out).2.2 | (with_reducible refine Kd.C_alloc ?_ _) | (with_reducible refine Kd.C_drewN ?_ _) | (with_reducible refine Kd.C_drew ?_))); (case side2 => exact (Kd.R_reads' HO_20.out).2.1); rintro e w84 ⟨v935, v938, rfl, ho0, ho1, hb⟩; refine ⟨_, rfl, ?_⟩; have n0_ := Aside0.mk (Kd.Q_below HO_14.out hb); have n1_ := Aside0.mk (Kd.R_below HO_18.out hb); have n2_ := Aside0.mk (Kd.R_below HO_19.out hb); have n3_ := Aside0.mk (Kd.R_mono (Kd.R_told (Kd.R_told (Kd.R_old HO_20.out hb) (Kd.R_base ho0)) (Kd.R_base ho1)) (fun _ h_ => h_.1)); have n4_ := Aside0.mk (Kd.R_lower (Kd.R_new' ho0 (Kd.R_lt HO_20.out)) (below_size HB.out)); have n5_ := Aside0.mk (Kd.R_lower (Kd.R_new' ho1 (Kd.R_lt HO_20.out)) (below_size HB.out)); have n6_ := Aside0.mk (below_step HB.out hb); clear HO_14 HO_18 HO_19 HO_20 HB; have HO_14 := n0_; have HO_18 := n1_; have HO_19 := n2_; have HO_20 := n3_; have HO936 := n4_; have HO939 := n5_; have HB := n6_; clear n0_ n1_ n2_ n3_ n4_ n5_ n6_; (try clear hb); (try clear hb2); (try clear hk); (try clear hi); (try clear ho0); (try clear ho1)) | ((with_reducible refine gate_dst (N := 26) rfl ?_); (try (refine gate_guard (by rfl) ?_; dsimp only)); refine box_event ?hg (N := 26) ?hd (cs := #[.string (⟨#[]⟩ : ByteArray), .slice none 0 0, .slice none 0 0]) (t := 64) ?hr ?_; (case hd => rfl); (case hg => rfl); (case hr => first | (go_simp; done) | (go_simp; rfl)); intro gb941 hg w85 hbox hb; have n0_ := Aside0.mk (Kd.Q_below HO_14.out hb); have n1_ := Aside0.mk (Kd.R_below HO_18.out hb); have n2_ := Aside0.mk (Kd.R_below HO_19.out hb); have n3_ := Aside0.mk (Kd.R_below HO_20.out hb); have n4_ := Aside0.mk (Kd.R_below HO936.out hb); have n5_ := Aside0.mk (Kd.R_below HO939.out hb); have n6_ := Aside0.mk (below_step HB.out hb); have n7_ := Aside0.mk (hbox); have n8_ := Aside0.mk ((by rw [hg]; exact (below_size HB.out) : w.heap.size ≤ gb941)); have n9_ := Aside0.mk ((by rw [hg]; exact (below_size HB.out) : w.heap.size ≤ gb941)); clear HO_14 HO_18 HO_19 HO_20 HO936 HO939 HB; have HO_14 := n0_; have HO_18 := n1_; have HO_19 := n2_; have HO_20 := n3_; have HO936 := n4_; have HO939 := n5_; have HB := n6_; have BK941 := n7_; have GW941 := n8_; have GE941 := n9_; clear n0_ n1_ n2_ n3_ n4_ n5_ n6_ n7_ n8_ n9_ hb hbox hg; have hcz86_0 : w85.cell? ⟨gb941, 0, none⟩ = some (.string (⟨#[]⟩ : ByteArray)) := (blk_cell BK941.out 0).trans rfl; have hcz86_1 : w85.cell? ⟨gb941, 1, none⟩ = some (.slice none 0 0) := (blk_cell BK941.out 1).trans rfl; have hcz86_2 : w85.cell? ⟨gb941, 2, none⟩ = some (.slice none 0 0) := (blk_cell BK941.out 2).trans rfl; have hfz86_0 := blk_frozen BK941.out 0; have hfz86_1 := blk_frozen BK941.out 1; have hfz86_2 := blk_frozen BK941.out 2; obtain ⟨Ao87, co87, eo87⟩ := Kd.R_slice HO936.out; subst eo87; obtain ⟨Ao88, co88, eo88⟩ := Kd.R_slice HO939.out; subst eo88; have hcv89 := own_string (P := Try.prog) Try.underlying29 Try.underlying5 Try.underlying9 (Kd.own_of_R (Kd.R_far (p := ⟨gb941, 2, none⟩) (Kd.R_far (p := ⟨gb941, 1, none⟩) (Kd.R_far (p := ⟨gb941, 0, none⟩) (Kd.R_types HO_18.out BK941.out (by decide)) (fun _ hk => hk.2) (.string t933)) (fun _ hk => hk.2) (.slice Ao87 t934.length co87)) (fun _ hk => hk.2) (.slice Ao88 t937.length co88)))) | ((with_reducible refine gate_callee (f := 51) rfl ?_); refine goesL_ (some 180) rfl rfl Try.func51 (by kernel_rfl) rfl #[.string (strOfNums x18_6), .int .i64 t909, .slice Ao83 x20_5.length co83] rfl (by (try simp only [List.map_toArray, List.map_cons, List.map_nil]); first | done | rfl | (simp only [List.length_drop, List.length_take]; rfl)) ?_; (with_reducible refine (mend_Mend.calls k6 (strOfNums x18_6) t909 _ _ x20_5 t942 t943 t946 t949 _ ?side1 ?side2 A78.out).mono ?_); (case side1 => refine (Kd.R_reads' (e := 3) (base := w.heap.size) (ok := fun k_ => ((True ∧ some k_ ≠ (.slice Ao87 t934.length co87 : Value).ownBlock) ∧ some k_ ≠ (.slice Ao88 t937.length co88 : Value).ownBlock)) (n := x20_5.length) (c := co83) ?_).2.2; exact (by (with_reducible repeat (first | apply Kd.R_alloc | apply Kd.R_drewN | apply Kd.R_drew)); exact (Kd.R_mono (Kd.R_far (p := ⟨gb941, 2, none⟩) (Kd.R_far (p := ⟨gb941, 1, none⟩) (Kd.R_far (p := ⟨gb941, 0, none⟩) (Kd.R_types HO_20.out BK941.out (by decide)) (fun _ hk => hk.2) (.string t933)) (fun _ hk => hk.2) (.slice Ao87 t934.length co87)) (fun _ hk => hk.2) (.slice Ao88 t937.length co88)) (fun _ h_ => h_.1)))); (case side2 => exact (Kd.R_reads' HO_20.out).2.1); rintro e w90 ⟨v944, v947, rfl, ho0, ho1, hb⟩; refine ⟨_, rfl, ?_⟩; have n0_ := Aside0.mk (Kd.Q_below (by (with_reducible repeat (first | apply Kd.Q_alloc | apply Kd.Q_drewN | apply Kd.Q_drew)); exact (Kd.Q_mono (Kd.Q_far (p := ⟨gb941, 2, none⟩) (Kd.Q_far (p := ⟨gb941, 1, none⟩) (Kd.Q_far (p := ⟨gb941, 0, none⟩) (Kd.Q_types HO_14.out BK941.out (by decide)) (fun _ hk => hk.2) (.string t933)) (fun _ hk => hk.2) (.slice Ao87 t934.length co87)) (fun _ hk => hk.2) (.slice Ao88 t937.length co88)) (fun _ h_ => h_.1))) hb); have n1_ := Aside0.mk (Kd.R_below (by (with_reducible repeat (first | apply Kd.R_alloc | apply Kd.R_drewN | apply Kd.R_drew)); exact (Kd.R_mono (Kd.R_far (p := ⟨gb941, 2, none⟩) (Kd.R_far (p := ⟨gb941, 1, none⟩) (Kd.R_far (p := ⟨gb941, 0, none⟩) (Kd.R_types HO_18.out BK941.out (by decide)) (fun _ hk => hk.2) (.string t933)) (fun _ hk => hk.2) (.slice Ao87 t934.length co87)) (fun _ hk => hk.2) (.slice Ao88 t937.length co88)) (fun _ h_ => h_.1))) hb); have n2_ := Aside0.mk (Kd.R_below (by (with_reducible repeat (first | apply Kd.R_alloc | apply Kd.R_drewN | apply Kd.R_drew)); exact (Kd.R_mono (Kd.R_far (p := ⟨gb941, 2, none⟩) (Kd.R_far (p := ⟨gb941, 1, none⟩) (Kd.R_far (p := ⟨gb941, 0, none⟩) (Kd.R_types HO_19.out BK941.out (by decide)) (fun _ hk => hk.2) (.string t933)) (fun _ hk => hk.2) (.slice Ao87 t934.length co87)) (fun _ hk => hk.2) (.slice Ao88 t937.length co88)) (fun _ h_ => h_.1))) hb); have n3_ := Aside0.mk (Kd.R_mono (Kd.R_told (Kd.R_told (Kd.R_old (by (with_reducible repeat (first | apply Kd.R_alloc | apply Kd.R_drewN | apply Kd.R_drew)); exact (Kd.R_mono (Kd.R_far (p := ⟨gb941, 2, none⟩) (Kd.R_far (p := ⟨gb941, 1, none⟩) (Kd.R_far (p := ⟨gb941, 0, none⟩) (Kd.R_types HO_20.out BK941.out (by decide)) (fun _ hk => hk.2) (.string t933)) (fun _ hk => hk.2) (.slice Ao87 t934.length co87)) (fun _ hk => hk.2) (.slice Ao88 t937.length co88)) (fun _ h_ => h_.1))) hb) (Kd.R_base ho0)) (Kd.R_base ho1)) (fun _ h_ => h_.1)); have n4_ := Aside0.mk (Kd.R_mono (Kd.R_told (Kd.R_told (Kd.R_old (by (with_reducible repeat (first | apply Kd.R_alloc | apply Kd.R_drewN | apply Kd.R_drew)); exact (Kd.R_mono (Kd.R_far (p := ⟨gb941, 2, none⟩) (Kd.R_far (p := ⟨gb941, 1, none⟩) (Kd.R_far (p := ⟨gb941, 0, none⟩) (Kd.R_types HO936.out BK941.out (by decide)) (fun _ hk => hk.2) (.string t933)) (fun _ hk => hk.2) (.slice Ao87 t934.length co87)) (fun _ hk => hk.2) (.slice Ao88 t937.length co88)) (fun _ h_ => h_.1))) hb) (Kd.R_base ho0)) (Kd.R_base ho1)) (fun _ h_ => h_.1)); have n5_ := Aside0.mk (Kd.R_mono (Kd.R_told (Kd.R_told (Kd.R_old (by (with_reducible repeat (first | apply Kd.R_alloc | apply Kd.R_drewN | apply Kd.R_drew)); exact (Kd.R_mono (Kd.R_far (p := ⟨gb941, 2, none⟩) (Kd.R_far (p := ⟨gb941, 1, none⟩) (Kd.R_far (p := ⟨gb941, 0, none⟩) (Kd.R_types HO939.out BK941.out (by decide)) (fun _ hk => hk.2) (.string t933)) (fun _ hk => hk.2) (.slice Ao87 t934.length co87)) (fun _ hk => hk.2) (.slice Ao88 t937.length co88)) (fun _ h_ => h_.1))) hb) (Kd.R_base ho0)) (Kd.R_base ho1)) (fun _ h_ => h_.1)); have n6_ := Aside0.mk (Kd.R_lower (Kd.R_new' (Kd.R_new' (Kd.R_new' ho0 (Kd.R_lt (by (with_reducible repeat (first | apply Kd.R_alloc | apply Kd.R_drewN | apply Kd.R_drew)); exact (Kd.R_mono (Kd.R_far (p := ⟨gb941, 2, none⟩) (Kd.R_far (p := ⟨gb941, 1, none⟩) (Kd.R_far (p := ⟨gb941, 0, none⟩) (Kd.R_types HO_20.out BK941.out (by decide)) (fun _ hk => hk.2) (.string t933)) (fun _ hk => hk.2) (.slice Ao87 t934.length co87)) (fun _ hk => hk.2) (.slice Ao88 t937.length co88)) (fun _ h_ => h_.1))))) (Kd.R_lt (by (with_reducible repeat (first | apply Kd.R_alloc | apply Kd.R_drewN | apply Kd.R_drew)); exact (Kd.R_mono (Kd.R_far (p := ⟨gb941, 2, none⟩) (Kd.R_far (p := ⟨gb941, 1, none⟩) (Kd.R_far (p := ⟨gb941, 0, none⟩) (Kd.R_types HO936.out BK941.out (by decide)) (fun _ hk => hk.2) (.string t933)) (fun _ hk => hk.2) (.slice Ao87 t934.length co87)) (fun _ hk => hk.2) (.slice Ao88 t937.length co88)) (fun _ h_ => h_.1))))) (Kd.R_lt (by (with_reducible repeat (first | apply Kd.R_alloc | apply Kd.R_drewN | apply Kd.R_drew)); exact (Kd.R_mono (Kd.R_far (p := ⟨gb941, 2, none⟩) (Kd.R_far (p := ⟨gb941, 1, none⟩) (Kd.R_far (p := ⟨gb941, 0, none⟩) (Kd.R_types HO939.out BK941.out (by decide)) (fun _ hk => hk.2) (.string t933)) (fun _ hk => hk.2) (.slice Ao87 t934.length co87)) (fun _ hk => hk.2) (.slice Ao88 t937.length co88)) (fun _ h_ => h_.1))))) (below_size (by repeat (first | (with_reducible first | exact HB.out | apply below_alloc | apply pw_below_drewN | apply below_drew1 | refine below_set ?_ GE941.out) | exact HB.out)))); have n7_ := Aside0.mk (Kd.R_lower (Kd.R_new' (Kd.R_new' (Kd.R_new' ho1 (Kd.R_lt (by (with_reducible repeat (first | apply Kd.R_alloc | apply Kd.R_drewN | apply Kd.R_drew)); exact (Kd.R_mono (Kd.R_far (p := ⟨gb941, 2, none⟩) (Kd.R_far (p := ⟨gb941, 1, none⟩) (Kd.R_far (p := ⟨gb941, 0, none⟩) (Kd.R_types HO_20.out BK941.out (by decide)) (fun _ hk => hk.2) (.string t933)) (fun _ hk => hk.2) (.slice Ao87 t934.length co87)) (fun _ hk => hk.2) (.slice Ao88 t937.length co88)) (fun _ h_ => h_.1))))) (Kd.R_lt (by (with_reducible repeat (first | apply Kd.R_alloc | apply Kd.R_drewN | apply Kd.R_drew)); exact (Kd.R_mono (Kd.R_far (p := ⟨gb941, 2, none⟩) (Kd.R_far (p := ⟨gb941, 1, none⟩) (Kd.R_far (p := ⟨gb941, 0, none⟩) (Kd.R_types HO936.out BK941.out (by decide)) (fun _ hk => hk.2) (.string t933)) (fun _ hk => hk.2) (.slice Ao87 t934.length co87)) (fun _ hk => hk.2) (.slice Ao88 t937.length co88)) (fun _ h_ => h_.1))))) (Kd.R_lt (by (with_reducible repeat (first | apply Kd.R_alloc | apply Kd.R_drewN | apply Kd.R_drew)); exact (Kd.R_mono (Kd.R_far (p := ⟨gb941, 2, none⟩) (Kd.R_far (p := ⟨gb941, 1, none⟩) (Kd.R_far (p := ⟨gb941, 0, none⟩) (Kd.R_types HO939.out BK941.out (by decide)) (fun _ hk => hk.2) (.string t933)) (fun _ hk => hk.2) (.slice Ao87 t934.length co87)) (fun _ hk => hk.2) (.slice Ao88 t937.length co88)) (fun _ h_ => h_.1))))) (below_size (by repeat (first | (with_reducible first | exact HB.out | apply below_alloc | apply pw_below_drewN | apply below_drew1 | refine below_set ?_ GE941.out) | exact HB.out)))); have n8_ := Aside0.mk (blk_below (g := gb941) (o := .cells #[.string t933, .slice Ao87 t934.length co87, .slice Ao88 t937.length co88] 64 (0, 0)) (by (with_reducible repeat (first | refine blk_drewN ?_ _ | refine blk_drew ?_ | refine blk_alloc ?_ _)); refine blk_put (cs := #[.string t933, .slice Ao87 t934.length co87, .slice none 0 0]) ?_ 2 _ rfl; (with_reducible repeat (first | refine blk_drewN ?_ _ | refine blk_drew ?_ | refine blk_alloc ?_ _)); refine blk_put (cs := #[.string t933, .slice none 0 0, .slice none 0 0]) ?_ 1 _ rfl; (with_reducible repeat (first | refine blk_drewN ?_ _ | refine blk_drew ?_ | refine blk_alloc ?_ _)); refine blk_put (cs := #[.string (⟨#[]⟩ : ByteArray), .slice none 0 0, .slice none 0 0]) ?_ 0 _ rfl; (with_reducible repeat (first | refine blk_drewN ?_ _ | refine blk_drew ?_ | refine blk_alloc ?_ _)); exact BK941.out) hb); have n9_ := Aside0.mk (below_step (by repeat (first | (with_reducible first | exact HB.out | apply below_alloc | apply pw_below_drewN | apply below_drew1 | refine below_set ?_ GE941.out) | exact HB.out)) hb); clear HO_14 HO_18 HO_19 HO_20 HO936 HO939 BK941 HB; have HO_14 := n0_; have HO_18 := n1_; have HO_19 := n2_; have HO_20 := n3_; have HO936 := n4_; have HO939 := n5_; have HO945 := n6_; have HO948 := n7_; have BK941 := n8_; have HB := n9_; clear n0_ n1_ n2_ n3_ n4_ n5_ n6_ n7_ n8_ n9_; (try clear hb); (try clear hb2); (try clear hk); (try clear hi); (try clear ho0); (try clear ho1)) | ((with_reducible refine gate_dst (N := 28) rfl ?_); (try (refine gate_guard (by rfl) ?_; dsimp only)); refine box_event ?hg (N := 28) ?hd (cs := #[.string (⟨#[]⟩ : ByteArray), .slice none 0 0, .slice none 0 0]) (t := 64) ?hr ?_; (case hd => rfl); (case hg => rfl); (case hr => first | (go_simp; done) | (go_simp; rfl)); intro gb950 hg w91 hbox hb; have n0_ := Aside0.mk (Kd.Q_below HO_14.out hb); have n1_ := Aside0.mk (Kd.R_below HO_18.out hb); have n2_ := Aside0.mk (Kd.R_below HO_19.out hb); have n3_ := Aside0.mk (Kd.R_below HO_20.out hb); have n4_ := Aside0.mk (Kd.R_below HO936.out hb); have n5_ := Aside0.mk (Kd.R_below HO939.out hb); have n6_ := Aside0.mk (Kd.R_below HO945.out hb); have n7_ := Aside0.mk (Kd.R_below HO948.out hb); have n8_ := Aside0.mk (blk_below (g := gb941) (o := .cells #[.string t933, .slice Ao87 t934.length co87, .slice Ao88 t937.length co88] 64 (0, 0)) BK941.out hb); have n9_ := Aside0.mk (below_step (by repeat (first | (with_reducible first | exact HB.out | apply below_alloc | apply pw_below_drewN | apply below_drew1 | refine below_set ?_ GE941.out) | exact HB.out)) hb); have n10_ := Aside0.mk (hbox); have n11_ := Aside0.mk ((by rw [hg]; exact (below_size (by repeat (first | (with_reducible first | exact HB.out | apply below_alloc | apply pw_below_drewN | apply below_drew1 | refine below_set ?_ GE941.out) | exact HB.out))) : w.heap.size ≤ gb950)); have n12_ := Aside0.mk ((by rw [hg]; exact (below_size (by repeat (first | (with_reducible first | exact HB.out | apply below_alloc | apply pw_below_drewN | apply below_drew1 | refine below_set ?_ GE941.out) | exact HB.out))) : w.heap.size ≤ gb950)); have n13_ := Aside0.mk ((by rw [hg]; exact Nat.ne_of_lt (blk_lt (g := gb941) (o := .cells #[.string t933, .slice Ao87 t934.length co87, .slice Ao88 t937.length co88] 64 (0, 0)) BK941.out) : gb941 ≠ gb950)); have n14_ := Aside0.mk ((by rw [hg]; exact Nat.ne_of_gt (blk_lt (g := gb941) (o := .cells #[.string t933, .slice Ao87 t934.length co87, .slice Ao88 t937.length co88] 64 (0, 0)) BK941.out) : gb950 ≠ gb941)); clear HO_14 HO_18 HO_19 HO_20 HO936 HO939 HO945 HO948 BK941 HB; have HO_14 := n0_; have HO_18 := n1_; have HO_19 := n2_; have HO_20 := n3_; have HO936 := n4_; have HO939 := n5_; have HO945 := n6_; have HO948 := n7_; have BK941 := n8_; have HB := n9_; have BK950 := n10_; have GW950 := n11_; have GE950 := n12_; have NB941_950 := n13_; have NB950_941 := n14_; clear n0_ n1_ n2_ n3_ n4_ n5_ n6_ n7_ n8_ n9_ n10_ n11_ n12_ n13_ n14_ hb hbox hg; have hnb92 := NB950_941.out; have hnc92 := NB941_950.out; have hcz93_0 : w91.cell? ⟨gb950, 0, none⟩ = some (.string (⟨#[]⟩ : ByteArray)) := (blk_cell BK950.out 0).trans rfl; have hcz93_1 : w91.cell? ⟨gb950, 1, none⟩ = some (.slice none 0 0) := (blk_cell BK950.out 1).trans rfl; have hcz93_2 : w91.cell? ⟨gb950, 2, none⟩ = some (.slice none 0 0) := (blk_cell BK950.out 2).trans rfl; have hfz93_0 := blk_frozen BK950.out 0; have hfz93_1 := blk_frozen BK950.out 1; have hfz93_2 := blk_frozen BK950.out 2; obtain ⟨Ao94, co94, eo94⟩ := Kd.R_slice HO945.out; subst eo94; obtain ⟨Ao95, co95, eo95⟩ := Kd.R_slice HO948.out; subst eo95; have hcv96 := own_string (P := Try.prog) Try.underlying29 Try.underlying5 Try.underlying9 (Kd.own_of_R (Kd.R_far (p := ⟨gb950, 2, none⟩) (Kd.R_far (p := ⟨gb950, 1, none⟩) (Kd.R_far (p := ⟨gb950, 0, none⟩) (Kd.R_types HO_19.out BK950.out (by decide)) (fun _ hk => hk.2) (.string t942)) (fun _ hk => hk.2) (.slice Ao94 t943.length co94)) (fun _ hk => hk.2) (.slice Ao95 t946.length co95)))) | ((with_reducible refine gate_callee (f := 51) rfl ?_); refine goesL_ (some 188) rfl rfl Try.func51 (by kernel_rfl) rfl #[.string (strOfNums x19_5), .int .i64 t909, .slice Ao83 x20_5.length co83] rfl (by (try simp only [List.map_toArray, List.map_cons, List.map_nil]); first | done | rfl | (simp only [List.length_drop, List.length_take]; rfl)) ?_; (with_reducible refine (mend_Mend.calls k6 (strOfNums x19_5) t909 _ _ x20_5 t951 t952 t955 t958 _ ?side1 ?side2 A79.out).mono ?_); (case side1 => refine (Kd.R_reads' (e := 3) (base := w.heap.size) (ok := fun k_ => ((((True ∧ some k_ ≠ (.slice Ao87 t934.length co87 : Value).ownBlock) ∧ some k_ ≠ (.slice Ao88 t937.length co88 : Value).ownBlock) ∧ some k_ ≠ (.slice Ao94 t943.length co94 : Value).ownBlock) ∧ some k_ ≠ (.slice Ao95 t946.length co95 : Value).ownBlock)) (n := x20_5.length) (c := co83) ?_).2.2; exact (by (with_reducible repeat (first | apply Kd.R_alloc | apply Kd.R_drewN | apply Kd.R_drew)); exact (Kd.R_mono (Kd.R_far (p := ⟨gb950, 2, none⟩) (Kd.R_far (p := ⟨gb950, 1, none⟩) (Kd.R_far (p := ⟨gb950, 0, none⟩) (Kd.R_types HO_20.out BK950.out (by decide)) (fun _ hk => hk.2) (.string t942)) (fun _ hk => hk.2) (.slice Ao94 t943.length co94)) (fun _ hk => hk.2) (.slice Ao95 t946.length co95)) (fun _ h_ => h_.1)))); (case side2 => exact (Kd.R_reads' HO_20.out).2.1); rintro e w97 ⟨v953, v956, rfl, ho0, ho1, hb⟩; refine ⟨_, rfl, ?_⟩; have n0_ := Aside0.mk (Kd.Q_below (by (with_reducible repeat (first | apply Kd.Q_alloc | apply Kd.Q_drewN | apply Kd.Q_drew)); exact (Kd.Q_mono (Kd.Q_far (p := ⟨gb950, 2, none⟩) (Kd.Q_far (p := ⟨gb950, 1, none⟩) (Kd.Q_far (p := ⟨gb950, 0, none⟩) (Kd.Q_types HO_14.out BK950.out (by decide)) (fun _ hk => hk.2) (.string t942)) (fun _ hk => hk.2) (.slice Ao94 t943.length co94)) (fun _ hk => hk.2) (.slice Ao95 t946.length co95)) (fun _ h_ => h_.1))) hb); have n1_ := Aside0.mk (Kd.R_below (by (with_reducible repeat (first | apply Kd.R_alloc | apply Kd.R_drewN | apply Kd.R_drew)); exact (Kd.R_mono (Kd.R_far (p := ⟨gb950, 2, none⟩) (Kd.R_far (p := ⟨gb950, 1, none⟩) (Kd.R_far (p := ⟨gb950, 0, none⟩) (Kd.R_types HO_18.out BK950.out (by decide)) (fun _ hk => hk.2) (.string t942)) (fun _ hk => hk.2) (.slice Ao94 t943.length co94)) (fun _ hk => hk.2) (.slice Ao95 t946.length co95)) (fun _ h_ => h_.1))) hb); have n2_ := Aside0.mk (Kd.R_below (by (with_reducible repeat (first | apply Kd.R_alloc | apply Kd.R_drewN | apply Kd.R_drew)); exact (Kd.R_mono (Kd.R_far (p := ⟨gb950, 2, none⟩) (Kd.R_far (p := ⟨gb950, 1, none⟩) (Kd.R_far (p := ⟨gb950, 0, none⟩) (Kd.R_types HO_19.out BK950.out (by decide)) (fun _ hk => hk.2) (.string t942)) (fun _ hk => hk.2) (.slice Ao94 t943.length co94)) (fun _ hk => hk.2) (.slice Ao95 t946.length co95)) (fun _ h_ => h_.1))) hb); have n3_ := Aside0.mk (Kd.R_mono (Kd.R_told (Kd.R_told (Kd.R_old (by (with_reducible repeat (first | apply Kd.R_alloc | apply Kd.R_drewN | apply Kd.R_drew)); exact (Kd.R_mono (Kd.R_far (p := ⟨gb950, 2, none⟩) (Kd.R_far (p := ⟨gb950, 1, none⟩) (Kd.R_far (p := ⟨gb950, 0, none⟩) (Kd.R_types HO_20.out BK950.out (by decide)) (fun _ hk => hk.2) (.string t942)) (fun _ hk => hk.2) (.slice Ao94 t943.length co94)) (fun _ hk => hk.2) (.slice Ao95 t946.length co95)) (fun _ h_ => h_.1))) hb) (Kd.R_base ho0)) (Kd.R_base ho1)) (fun _ h_ => h_.1)); have n4_ := Aside0.mk (Kd.R_mono (Kd.R_told (Kd.R_told (Kd.R_old (by (with_reducible repeat (first | apply Kd.R_alloc | apply Kd.R_drewN | apply Kd.R_drew)); exact (Kd.R_mono (Kd.R_far (p := ⟨gb950, 2, none⟩) (Kd.R_far (p := ⟨gb950, 1, none⟩) (Kd.R_far (p := ⟨gb950, 0, none⟩) (Kd.R_types HO936.out BK950.out (by decide)) (fun _ hk => hk.2) (.string t942)) (fun _ hk => hk.2) (.slice Ao94 t943.length co94)) (fun _ hk => hk.2) (.slice Ao95 t946.length co95)) (fun _ h_ => h_.1))) hb) (Kd.R_base ho0)) (Kd.R_base ho1)) (fun _ h_ => h_.1)); have n5_ := Aside0.mk (Kd.R_mono (Kd.R_told (Kd.R_told (Kd.R_old (by (with_reducible repeat (first | apply Kd.R_alloc | apply Kd.R_drewN | apply Kd.R_drew)); exact (Kd.R_mono (Kd.R_far (p := ⟨gb950, 2, none⟩) (Kd.R_far (p := ⟨gb950, 1, none⟩) (Kd.R_far (p := ⟨gb950, 0, none⟩) (Kd.R_types HO939.out BK950.out (by decide)) (fun _ hk => hk.2) (.string t942)) (fun _ hk => hk.2) (.slice Ao94 t943.length co94)) (fun _ hk => hk.2) (.slice Ao95 t946.length co95)) (fun _ h_ => h_.1))) hb) (Kd.R_base ho0)) (Kd.R_base ho1)) (fun _ h_ => h_.1)); have n6_ := Aside0.mk (Kd.R_mono (Kd.R_told (Kd.R_told (Kd.R_old (by (with_reducible repeat (first | apply Kd.R_alloc | apply Kd.R_drewN | apply Kd.R_drew)); exact (Kd.R_mono (Kd.R_far (p := ⟨gb950, 2, none⟩) (Kd.R_far (p := ⟨gb950, 1, none⟩) (Kd.R_far (p := ⟨gb950, 0, none⟩) (Kd.R_types HO945.out BK950.out (by decide)) (fun _ hk => hk.2) (.string t942)) (fun _ hk => hk.2) (.slice Ao94 t943.length co94)) (fun _ hk => hk.2) (.slice Ao95 t946.length co95)) (fun _ h_ => h_.1))) hb) (Kd.R_base ho0)) (Kd.R_base ho1)) (fun _ h_ => h_.1)); have n7_ := Aside0.mk (Kd.R_mono (Kd.R_told (Kd.R_told (Kd.R_old (by (with_reducible repeat (first | apply Kd.R_alloc | apply Kd.R_drewN | apply Kd.R_drew)); exact (Kd.R_mono (Kd.R_far (p := ⟨gb950, 2, none⟩) (Kd.R_far (p := ⟨gb950, 1, none⟩) (Kd.R_far (p := ⟨gb950, 0, none⟩) (Kd.R_types HO948.out BK950.out (by decide)) (fun _ hk => hk.2) (.string t942)) (fun _ hk => hk.2) (.slice Ao94 t943.length co94)) (fun _ hk => hk.2) (.slice Ao95 t946.length co95)) (fun _ h_ => h_.1))) hb) (Kd.R_base ho0)) (Kd.R_base ho1)) (fun _ h_ => h_.1)); have n8_ := Aside0.mk (Kd.R_lower (Kd.R_new' (Kd.R_new' (Kd.R_new' (Kd.R_new' (Kd.R_new' ho0 (Kd.R_lt (by (with_reducible repeat (first | apply Kd.R_alloc | apply Kd.R_drewN | apply Kd.R_drew)); exact (Kd.R_mono (Kd.R_far (p := ⟨gb950, 2, none⟩) (Kd.R_far (p := ⟨gb950, 1, none⟩) (Kd.R_far (p := ⟨gb950, 0, none⟩) (Kd.R_types HO_20.out BK950.out (by decide)) (fun _ hk => hk.2) (.string t942)) (fun _ hk => hk.2) (.slice Ao94 t943.length co94)) (fun _ hk => hk.2) (.slice Ao95 t946.length co95)) (fun _ h_ => h_.1))))) (Kd.R_lt (by (with_reducible repeat (first | apply Kd.R_alloc | apply Kd.R_drewN | apply Kd.R_drew)); exact (Kd.R_mono (Kd.R_far (p := ⟨gb950, 2, none⟩) (Kd.R_far (p := ⟨gb950, 1, none⟩) (Kd.R_far (p := ⟨gb950, 0, none⟩) (Kd.R_types HO936.out BK950.out (by decide)) (fun _ hk => hk.2) (.string t942)) (fun _ hk => hk.2) (.slice Ao94 t943.length co94)) (fun _ hk => hk.2) (.slice Ao95 t946.length co95)) (fun _ h_ => h_.1))))) (Kd.R_lt (by (with_reducible repeat (first | apply Kd.R_alloc | apply Kd.R_drewN | apply Kd.R_drew)); exact (Kd.R_mono (Kd.R_far (p := ⟨gb950, 2, none⟩) (Kd.R_far (p := ⟨gb950, 1, none⟩) (Kd.R_far (p := ⟨gb950, 0, none⟩) (Kd.R_types HO939.out BK950.out (by decide)) (fun _ hk => hk.2) (.string t942)) (fun _ hk => hk.2) (.slice Ao94 t943.length co94)) (fun _ hk => hk.2) (.slice Ao95 t946.length co95)) (fun _ h_ => h_.1))))) (Kd.R_lt (by (with_reducible repeat (first | apply Kd.R_alloc | apply Kd.R_drewN | apply Kd.R_drew)); exact (Kd.R_mono (Kd.R_far (p := ⟨gb950, 2, none⟩) (Kd.R_far (p := ⟨gb950, 1, none⟩) (Kd.R_far (p := ⟨gb950, 0, none⟩) (Kd.R_types HO945.out BK950.out (by decide)) (fun _ hk => hk.2) (.string t942)) (fun _ hk => hk.2) (.slice Ao94 t943.length co94)) (fun _ hk => hk.2) (.slice Ao95 t946.length co95)) (fun _ h_ => h_.1))))) (Kd.R_lt (by (with_reducible repeat (first | apply Kd.R_alloc | apply Kd.R_drewN | apply Kd.R_drew)); exact (Kd.R_mono (Kd.R_far (p := ⟨gb950, 2, none⟩) (Kd.R_far (p := ⟨gb950, 1, none⟩) (Kd.R_far (p := ⟨gb950, 0, none⟩) (Kd.R_types HO948.out BK950.out (by decide)) (fun _ hk => hk.2) (.string t942)) (fun _ hk => hk.2) (.slice Ao94 t943.length co94)) (fun _ hk => hk.2) (.slice Ao95 t946.length co95)) (fun _ h_ => h_.1))))) (below_size (by repeat (first | (with_reducible first | exact HB.out | apply below_alloc | apply pw_below_drewN | apply below_drew1 | refine below_set ?_ GE941.out | refine below_set ?_ GE950.out) | exact HB.out)))); have n9_ := Aside0.mk (Kd.R_lower (Kd.R_new' (Kd.R_new' (Kd.R_new' (Kd.R_new' (Kd.R_new' ho1 (Kd.R_lt (by (with_reducible repeat (first | apply Kd.R_alloc | apply Kd.R_drewN | apply Kd.R_drew)); exact (Kd.R_mono (Kd.R_far (p := ⟨gb950, 2, none⟩) (Kd.R_far (p := ⟨gb950, 1, none⟩) (Kd.R_far (p := ⟨gb950, 0, none⟩) (Kd.R_types HO_20.out BK950.out (by decide)) (fun _ hk => hk.2) (.string t942)) (fun _ hk => hk.2) (.slice Ao94 t943.length co94)) (fun _ hk => hk.2) (.slice Ao95 t946.length co95)) (fun _ h_ => h_.1))))) (Kd.R_lt (by (with_reducible repeat (first | apply Kd.R_alloc | apply Kd.R_drewN | apply Kd.R_drew)); exact (Kd.R_mono (Kd.R_far (p := ⟨gb950, 2, none⟩) (Kd.R_far (p := ⟨gb950, 1, none⟩) (Kd.R_far (p := ⟨gb950, 0, none⟩) (Kd.R_types HO936.out BK950.out (by decide)) (fun _ hk => hk.2) (.string t942)) (fun _ hk => hk.2) (.slice Ao94 t943.length co94)) (fun _ hk => hk.2) (.slice Ao95 t946.length co95)) (fun _ h_ => h_.1))))) (Kd.R_lt (by (with_reducible repeat (first | apply Kd.R_alloc | apply Kd.R_drewN | apply Kd.R_drew)); exact (Kd.R_mono (Kd.R_far (p := ⟨gb950, 2, none⟩) (Kd.R_far (p := ⟨gb950, 1, none⟩) (Kd.R_far (p := ⟨gb950, 0, none⟩) (Kd.R_types HO939.out BK950.out (by decide)) (fun _ hk => hk.2) (.string t942)) (fun _ hk => hk.2) (.slice Ao94 t943.length co94)) (fun _ hk => hk.2) (.slice Ao95 t946.length co95)) (fun _ h_ => h_.1))))) (Kd.R_lt (by (with_reducible repeat (first | apply Kd.R_alloc | apply Kd.R_drewN | apply Kd.R_drew)); exact (Kd.R_mono (Kd.R_far (p := ⟨gb950, 2, none⟩) (Kd.R_far (p := ⟨gb950, 1, none⟩) (Kd.R_far (p := ⟨gb950, 0, none⟩) (Kd.R_types HO945.out BK950.out (by decide)) (fun _ hk => hk.2) (.string t942)) (fun _ hk => hk.2) (.slice Ao94 t943.length co94)) (fun _ hk => hk.2) (.slice Ao95 t946.length co95)) (fun _ h_ => h_.1))))) (Kd.R_lt (by (with_reducible repeat (first | apply Kd.R_alloc | apply Kd.R_drewN | apply Kd.R_drew)); exact (Kd.R_mono (Kd.R_far (p := ⟨gb950, 2, none⟩) (Kd.R_far (p := ⟨gb950, 1, none⟩) (Kd.R_far (p := ⟨gb950, 0, none⟩) (Kd.R_types HO948.out BK950.out (by decide)) (fun _ hk => hk.2) (.string t942)) (fun _ hk => hk.2) (.slice Ao94 t943.length co94)) (fun _ hk => hk.2) (.slice Ao95 t946.length co95)) (fun _ h_ => h_.1))))) (below_size (by repeat (first | (with_reducible first | exact HB.out | apply below_alloc | apply pw_below_drewN | apply below_drew1 | refine below_set ?_ GE941.out | refine below_set ?_ GE950.out) | exact HB.out)))); have n10_ := Aside0.mk (blk_below (g := gb941) (o := .cells #[.string t933, .slice Ao87 t934.length co87, .slice Ao88 t937.length co88] 64 (0, 0)) (by (with_reducible repeat (first | refine blk_drewN ?_ _ | refine blk_drew ?_ | refine blk_alloc ?_ _)); refine blk_far ?_ NB941_950.out _; (with_reducible repeat (first | refine blk_drewN ?_ _ | refine blk_drew ?_ | refine blk_alloc ?_ _)); refine blk_far ?_ NB941_950.out _; (with_reducible repeat (first | refine blk_drewN ?_ _ | refine blk_drew ?_ | refine blk_alloc ?_ _)); refine blk_far ?_ NB941_950.out _; (with_reducible repeat (first | refine blk_drewN ?_ _ | refine blk_drew ?_ | refine blk_alloc ?_ _)); exact BK941.out) hb); have n11_ := Aside0.mk (blk_below (g := gb950) (o := .cells #[.string t942, .slice Ao94 t943.length co94, .slice Ao95 t946.length co95] 64 (0, 0)) (by (with_reducible repeat (first | refine blk_drewN ?_ _ | refine blk_drew ?_ | refine blk_alloc ?_ _)); refine blk_put (cs := #[.string t942, .slice Ao94 t943.length co94, .slice none 0 0]) ?_ 2 _ rfl; (with_reducible repeat (first | refine blk_drewN ?_ _ | refine blk_drew ?_ | refine blk_alloc ?_ _)); refine blk_put (cs := #[.string t942, .slice none 0 0, .slice none 0 0]) ?_ 1 _ rfl; (with_reducible repeat (first | refine blk_drewN ?_ _ | refine blk_drew ?_ | refine blk_alloc ?_ _)); refine blk_put (cs := #[.string (⟨#[]⟩ : ByteArray), .slice none 0 0, .slice none 0 0]) ?_ 0 _ rfl; (with_reducible repeat (first | refine blk_drewN ?_ _ | refine blk_drew ?_ | refine blk_alloc ?_ _)); exact BK950.out) hb); have n12_ := Aside0.mk (below_step (by repeat (first | (with_reducible first | exact HB.out | apply below_alloc | apply pw_below_drewN | apply below_drew1 | refine below_set ?_ GE941.out | refine below_set ?_ GE950.out) | exact HB.out)) hb); clear HO_14 HO_18 HO_19 HO_20 HO936 HO939 HO945 HO948 BK941 BK950 HB; have HO_14 := n0_; have HO_18 := n1_; have HO_19 := n2_; have HO_20 := n3_; have HO936 := n4_; have HO939 := n5_; have HO945 := n6_; have HO948 := n7_; have HO954 := n8_; have HO957 := n9_; have BK941 := n10_; have BK950 := n11_; have HB := n12_; clear n0_ n1_ n2_ n3_ n4_ n5_ n6_ n7_ n8_ n9_ n10_ n11_ n12_; (try clear hb); (try clear hb2); (try clear hk); (try clear hi); (try clear ho0); (try clear ho1)) | ((with_reducible refine gate_dst (N := 30) rfl ?_); (try (refine gate_guard (by rfl) ?_; dsimp only)); refine box_event ?hg (N := 30) ?hd (cs := #[.string (⟨#[]⟩ : ByteArray), .slice none 0 0, .slice none 0 0]) (t := 64) ?hr ?_; (case hd => rfl); (case hg => rfl); (case hr => first | (go_simp; done) | (go_simp; rfl)); intro gb959 hg w98 hbox hb; have n0_ := Aside0.mk (Kd.Q_below HO_14.out hb); have n1_ := Aside0.mk (Kd.R_below HO_18.out hb); have n2_ := Aside0.mk (Kd.R_below HO_19.out hb); have n3_ := Aside0.mk (Kd.R_below HO_20.out hb); have n4_ := Aside0.mk (Kd.R_below HO936.out hb); have n5_ := Aside0.mk (Kd.R_below HO939.out hb); have n6_ := Aside0.mk (Kd.R_below HO945.out hb); have n7_ := Aside0.mk (Kd.R_below HO948.out hb); have n8_ := Aside0.mk (Kd.R_below HO954.out hb); have n9_ := Aside0.mk (Kd.R_below HO957.out hb); have n10_ := Aside0.mk (blk_below (g := gb941) (o := .cells #[.string t933, .slice Ao87 t934.length co87, .slice Ao88 t937.length co88] 64 (0, 0)) BK941.out hb); have n11_ := Aside0.mk (blk_below (g := gb950) (o := .cells #[.string t942, .slice Ao94 t943.length co94, .slice Ao95 t946.length co95] 64 (0, 0)) BK950.out hb); have n12_ := Aside0.mk (below_step (by repeat (first | (with_reducible first | exact HB.out | apply below_alloc | apply pw_below_drewN | apply below_drew1 | refine below_set ?_ GE941.out | refine below_set ?_ GE950.out) | exact HB.out)) hb); have n13_ := Aside0.mk (hbox); have n14_ := Aside0.mk ((by rw [hg]; exact (below_size (by repeat (first | (with_reducible first | exact HB.out | apply below_alloc | apply pw_below_drewN | apply below_drew1 | refine below_set ?_ GE941.out | refine below_set ?_ GE950.out) | exact HB.out))) : w.heap.size ≤ gb959)); have n15_ := Aside0.mk ((by rw [hg]; exact (below_size (by repeat (first | (with_reducible first | exact HB.out | apply below_alloc | apply pw_below_drewN | apply below_drew1 | refine below_set ?_ GE941.out | refine below_set ?_ GE950.out) | exact HB.out))) : w.heap.size ≤ gb959)); have n16_ := Aside0.mk ((by rw [hg]; exact Nat.ne_of_lt (blk_lt (g := gb941) (o := .cells #[.string t933, .slice Ao87 t934.length co87, .slice Ao88 t937.length co88] 64 (0, 0)) BK941.out) : gb941 ≠ gb959)); have n17_ := Aside0.mk ((by rw [hg]; exact Nat.ne_of_gt (blk_lt (g := gb941) (o := .cells #[.string t933, .slice Ao87 t934.length co87, .slice Ao88 t937.length co88] 64 (0, 0)) BK941.out) : gb959 ≠ gb941)); have n18_ := Aside0.mk ((by rw [hg]; exact Nat.ne_of_lt (blk_lt (g := gb950) (o := .cells #[.string t942, .slice Ao94 t943.length co94, .slice Ao95 t946.length co95] 64 (0, 0)) BK950.out) : gb950 ≠ gb959)); have n19_ := Aside0.mk ((by rw [hg]; exact Nat.ne_of_gt (blk_lt (g := gb950) (o := .cells #[.string t942, .slice Ao94 t943.length co94, .slice Ao95 t946.length co95] 64 (0, 0)) BK950.out) : gb959 ≠ gb950)); clear HO_14 HO_18 HO_19 HO_20 HO936 HO939 HO945 HO948 HO954 HO957 BK941 BK950 HB; have HO_14 := n0_; have HO_18 := n1_; have HO_19 := n2_; have HO_20 := n3_; have HO936 := n4_; have HO939 := n5_; have HO945 := n6_; have HO948 := n7_; have HO954 := n8_; have HO957 := n9_; have BK941 := n10_; have BK950 := n11_; have HB := n12_; have BK959 := n13_; have GW959 := n14_; have GE959 := n15_; have NB941_959 := n16_; have NB959_941 := n17_; have NB950_959 := n18_; have NB959_950 := n19_; clear n0_ n1_ n2_ n3_ n4_ n5_ n6_ n7_ n8_ n9_ n10_ n11_ n12_ n13_ n14_ n15_ n16_ n17_ n18_ n19_ hb hbox hg; have hnb99 := NB959_941.out; have hnc99 := NB941_959.out; have hnb100 := NB959_950.out; have hnc100 := NB950_959.out; have hcz101_0 : w98.cell? ⟨gb959, 0, none⟩ = some (.string (⟨#[]⟩ : ByteArray)) := (blk_cell BK959.out 0).trans rfl; have hcz101_1 : w98.cell? ⟨gb959, 1, none⟩ = some (.slice none 0 0) := (blk_cell BK959.out 1).trans rfl; have hcz101_2 : w98.cell? ⟨gb959, 2, none⟩ = some (.slice none 0 0) := (blk_cell BK959.out 2).trans rfl; have hfz101_0 := blk_frozen BK959.out 0; have hfz101_1 := blk_frozen BK959.out 1; have hfz101_2 := blk_frozen BK959.out 2; obtain ⟨Ao102, co102, eo102⟩ := Kd.R_slice HO954.out; subst eo102; obtain ⟨Ao103, co103, eo103⟩ := Kd.R_slice HO957.out; subst eo103; have hcv104 := Kd.C_string (P := Try.prog) (A := Ao32) (c := co32) Try.underlying29 Try.underlying5 Try.underlying9 (Kd.Q_reads' (Kd.Q_far (p := ⟨gb959, 2, none⟩) (Kd.Q_far (p := ⟨gb959, 1, none⟩) (Kd.Q_far (p := ⟨gb959, 0, none⟩) (Kd.Q_types HO_14.out BK959.out (by decide)) (fun _ hk => hk.2) (.string t951)) (fun _ hk => hk.2) (.slice Ao102 t952.length co102)) (fun _ hk => hk.2) (.slice Ao103 t955.length co103))).2.2; have hcv105 := own_string (P := Try.prog) Try.underlying29 Try.underlying5 Try.underlying9 (Kd.own_of_R (Kd.R_far (p := ⟨gb959, 2, none⟩) (Kd.R_far (p := ⟨gb959, 1, none⟩) (Kd.R_far (p := ⟨gb959, 0, none⟩) (Kd.R_types HO_18.out BK959.out (by decide)) (fun _ hk => hk.2) (.string t951)) (fun _ hk => hk.2) (.slice Ao102 t952.length co102)) (fun _ hk => hk.2) (.slice Ao103 t955.length co103)))) | ((with_reducible refine gate_dst (N := 197) rfl ?_); (try (refine gate_guard (by rfl) ?_; dsimp only)); refine Kd.R_lit Kd.string _ 9 ?hg (N := 197) ?hd (xs := ([strOfNums x14_3, t908, strOfNums x18_6] : List ByteArray)) (inner := [.string (strOfNums x14_3), .string t908, .string (strOfNums x18_6)]) (ok := fun _ => True) (okp := fun _ => True) ?hr ?hp (fun _ hk => hk) trivial (Below.refl _ _) (Nat.le_refl _) (by simp) ?_; (case hd => rfl); (case hg => rfl); (case hr => first | (go_simp; done) | (go_simp; rfl)); (case hp => exact (Reps.one (show Kd.M Kd.string _ _ _ (strOfNums x14_3) [.string (strOfNums x14_3)] from rfl) (Reps.one (show Kd.M Kd.string _ _ _ t908 [.string t908] from rfl) (Reps.one (show Kd.M Kd.string _ _ _ (strOfNums x18_6) [.string (strOfNums x18_6)] from rfl) (Reps.none _ _))))); intro v961 w106 ho107 hb hg_ hnew_; clear hg_ hnew_; (first | rw [← Ny960.out] at ho107 | (simp only [Int.reduceToNat] at ho107; rw [← Ny960.out] at ho107)); have n0_ := Aside0.mk (Kd.Q_below (by (with_reducible repeat (first | apply Kd.Q_alloc | apply Kd.Q_drewN | apply Kd.Q_drew)); exact (Kd.Q_mono (Kd.Q_far (p := ⟨gb959, 2, none⟩) (Kd.Q_far (p := ⟨gb959, 1, none⟩) (Kd.Q_far (p := ⟨gb959, 0, none⟩) (Kd.Q_types HO_14.out BK959.out (by decide)) (fun _ hk => hk.2) (.string t951)) (fun _ hk => hk.2) (.slice Ao102 t952.length co102)) (fun _ hk => hk.2) (.slice Ao103 t955.length co103)) (fun _ h_ => h_.1))) hb); have n1_ := Aside0.mk (Kd.R_below (by (with_reducible repeat (first | apply Kd.R_alloc | apply Kd.R_drewN | apply Kd.R_drew)); exact (Kd.R_mono (Kd.R_far (p := ⟨gb959, 2, none⟩) (Kd.R_far (p := ⟨gb959, 1, none⟩) (Kd.R_far (p := ⟨gb959, 0, none⟩) (Kd.R_types HO_18.out BK959.out (by decide)) (fun _ hk => hk.2) (.string t951)) (fun _ hk => hk.2) (.slice Ao102 t952.length co102)) (fun _ hk => hk.2) (.slice Ao103 t955.length co103)) (fun _ h_ => h_.1))) hb); have n2_ := Aside0.mk (Kd.R_below (by (with_reducible repeat (first | apply Kd.R_alloc | apply Kd.R_drewN | apply Kd.R_drew)); exact (Kd.R_mono (Kd.R_far (p := ⟨gb959, 2, none⟩) (Kd.R_far (p := ⟨gb959, 1, none⟩) (Kd.R_far (p := ⟨gb959, 0, none⟩) (Kd.R_types HO_19.out BK959.out (by decide)) (fun _ hk => hk.2) (.string t951)) (fun _ hk => hk.2) (.slice Ao102 t952.length co102)) (fun _ hk => hk.2) (.slice Ao103 t955.length co103)) (fun _ h_ => h_.1))) hb); have n3_ := Aside0.mk (Kd.R_below (by (with_reducible repeat (first | apply Kd.R_alloc | apply Kd.R_drewN | apply Kd.R_drew)); exact (Kd.R_mono (Kd.R_far (p := ⟨gb959, 2, none⟩) (Kd.R_far (p := ⟨gb959, 1, none⟩) (Kd.R_far (p := ⟨gb959, 0, none⟩) (Kd.R_types HO_20.out BK959.out (by decide)) (fun _ hk => hk.2) (.string t951)) (fun _ hk => hk.2) (.slice Ao102 t952.length co102)) (fun _ hk => hk.2) (.slice Ao103 t955.length co103)) (fun _ h_ => h_.1))) hb); have n4_ := Aside0.mk (Kd.R_below (by (with_reducible repeat (first | apply Kd.R_alloc | apply Kd.R_drewN | apply Kd.R_drew)); exact (Kd.R_mono (Kd.R_far (p := ⟨gb959, 2, none⟩) (Kd.R_far (p := ⟨gb959, 1, none⟩) (Kd.R_far (p := ⟨gb959, 0, none⟩) (Kd.R_types HO936.out BK959.out (by decide)) (fun _ hk => hk.2) (.string t951)) (fun _ hk => hk.2) (.slice Ao102 t952.length co102)) (fun _ hk => hk.2) (.slice Ao103 t955.length co103)) (fun _ h_ => h_.1))) hb); have n5_ := Aside0.mk (Kd.R_below (by (with_reducible repeat (first | apply Kd.R_alloc | apply Kd.R_drewN | apply Kd.R_drew)); exact (Kd.R_mono (Kd.R_far (p := ⟨gb959, 2, none⟩) (Kd.R_far (p := ⟨gb959, 1, none⟩) (Kd.R_far (p := ⟨gb959, 0, none⟩) (Kd.R_types HO939.out BK959.out (by decide)) (fun _ hk => hk.2) (.string t951)) (fun _ hk => hk.2) (.slice Ao102 t952.length co102)) (fun _ hk => hk.2) (.slice Ao103 t955.length co103)) (fun _ h_ => h_.1))) hb); have n6_ := Aside0.mk (Kd.R_below (by (with_reducible repeat (first | apply Kd.R_alloc | apply Kd.R_drewN | apply Kd.R_drew)); exact (Kd.R_mono (Kd.R_far (p := ⟨gb959, 2, none⟩) (Kd.R_far (p := ⟨gb959, 1, none⟩) (Kd.R_far (p := ⟨gb959, 0, none⟩) (Kd.R_types HO945.out BK959.out (by decide)) (fun _ hk => hk.2) (.string t951)) (fun _ hk => hk.2) (.slice Ao102 t952.length co102)) (fun _ hk => hk.2) (.slice Ao103 t955.length co103)) (fun _ h_ => h_.1))) hb); have n7_ := Aside0.mk (Kd.R_below (by (with_reducible repeat (first | apply Kd.R_alloc | apply Kd.R_drewN | apply Kd.R_drew)); exact (Kd.R_mono (Kd.R_far (p := ⟨gb959, 2, none⟩) (Kd.R_far (p := ⟨gb959, 1, none⟩) (Kd.R_far (p := ⟨gb959, 0, none⟩) (Kd.R_types HO948.out BK959.out (by decide)) (fun _ hk => hk.2) (.string t951)) (fun _ hk => hk.2) (.slice Ao102 t952.length co102)) (fun _ hk => hk.2) (.slice Ao103 t955.length co103)) (fun _ h_ => h_.1))) hb); have n8_ := Aside0.mk (Kd.R_below (by (with_reducible repeat (first | apply Kd.R_alloc | apply Kd.R_drewN | apply Kd.R_drew)); exact (Kd.R_mono (Kd.R_far (p := ⟨gb959, 2, none⟩) (Kd.R_far (p := ⟨gb959, 1, none⟩) (Kd.R_far (p := ⟨gb959, 0, none⟩) (Kd.R_types HO954.out BK959.out (by decide)) (fun _ hk => hk.2) (.string t951)) (fun _ hk => hk.2) (.slice Ao102 t952.length co102)) (fun _ hk => hk.2) (.slice Ao103 t955.length co103)) (fun _ h_ => h_.1))) hb); have n9_ := Aside0.mk (Kd.R_below (by (with_reducible repeat (first | apply Kd.R_alloc | apply Kd.R_drewN | apply Kd.R_drew)); exact (Kd.R_mono (Kd.R_far (p := ⟨gb959, 2, none⟩) (Kd.R_far (p := ⟨gb959, 1, none⟩) (Kd.R_far (p := ⟨gb959, 0, none⟩) (Kd.R_types HO957.out BK959.out (by decide)) (fun _ hk => hk.2) (.string t951)) (fun _ hk => hk.2) (.slice Ao102 t952.length co102)) (fun _ hk => hk.2) (.slice Ao103 t955.length co103)) (fun _ h_ => h_.1))) hb); have n10_ := Aside0.mk (Kd.R_lower ho107 (below_size (by repeat (first | (with_reducible first | exact HB.out | apply below_alloc | apply pw_below_drewN | apply below_drew1 | refine below_set ?_ GE941.out | refine below_set ?_ GE950.out | refine below_set ?_ GE959.out) | exact HB.out)))); have n11_ := Aside0.mk (blk_below (g := gb941) (o := .cells #[.string t933, .slice Ao87 t934.length co87, .slice Ao88 t937.length co88] 64 (0, 0)) (by (with_reducible repeat (first | refine blk_drewN ?_ _ | refine blk_drew ?_ | refine blk_alloc ?_ _)); refine blk_far ?_ NB941_959.out _; (with_reducible repeat (first | refine blk_drewN ?_ _ | refine blk_drew ?_ | refine blk_alloc ?_ _)); refine blk_far ?_ NB941_959.out _; (with_reducible repeat (first | refine blk_drewN ?_ _ | refine blk_drew ?_ | refine blk_alloc ?_ _)); refine blk_far ?_ NB941_959.out _; (with_reducible repeat (first | refine blk_drewN ?_ _ | refine blk_drew ?_ | refine blk_alloc ?_ _)); exact BK941.out) hb); have n12_ := Aside0.mk (blk_below (g := gb950) (o := .cells #[.string t942, .slice Ao94 t943.length co94, .slice Ao95 t946.length co95] 64 (0, 0)) (by (with_reducible repeat (first | refine blk_drewN ?_ _ | refine blk_drew ?_ | refine blk_alloc ?_ _)); refine blk_far ?_ NB950_959.out _; (with_reducible repeat (first | refine blk_drewN ?_ _ | refine blk_drew ?_ | refine blk_alloc ?_ _)); refine blk_far ?_ NB950_959.out _; (with_reducible repeat (first | refine blk_drewN ?_ _ | refine blk_drew ?_ | refine blk_alloc ?_ _)); refine blk_far ?_ NB950_959.out _; (with_reducible repeat (first | refine blk_drewN ?_ _ | refine blk_drew ?_ | refine blk_alloc ?_ _)); exact BK950.out) hb); have n13_ := Aside0.mk (blk_below (g := gb959) (o := .cells #[.string t951, .slice Ao102 t952.length co102, .slice Ao103 t955.length co103] 64 (0, 0)) (by (with_reducible repeat (first | refine blk_drewN ?_ _ | refine blk_drew ?_ | refine blk_alloc ?_ _)); refine blk_put (cs := #[.string t951, .slice Ao102 t952.length co102, .slice none 0 0]) ?_ 2 _ rfl; (with_reducible repeat (first | refine blk_drewN ?_ _ | refine blk_drew ?_ | refine blk_alloc ?_ _)); refine blk_put (cs := #[.string t951, .slice none 0 0, .slice none 0 0]) ?_ 1 _ rfl; (with_reducible repeat (first | refine blk_drewN ?_ _ | refine blk_drew ?_ | refine blk_alloc ?_ _)); refine blk_put (cs := #[.string (⟨#[]⟩ : ByteArray), .slice none 0 0, .slice none 0 0]) ?_ 0 _ rfl; (with_reducible repeat (first | refine blk_drewN ?_ _ | refine blk_drew ?_ | refine blk_alloc ?_ _)); exact BK959.out) hb); have n14_ := Aside0.mk (below_step (by repeat (first | (with_reducible first | exact HB.out | apply below_alloc | apply pw_below_drewN | apply below_drew1 | refine below_set ?_ GE941.out | refine below_set ?_ GE950.out | refine below_set ?_ GE959.out) | exact HB.out)) hb); clear HO_14 HO_18 HO_19 HO_20 HO936 HO939 HO945 HO948 HO954 HO957 BK941 BK950 BK959 HB; have HO_14 := n0_; have HO_18 := n1_; have HO_19 := n2_; have HO_20 := n3_; have HO936 := n4_; have HO939 := n5_; have HO945 := n6_; have HO948 := n7_; have HO954 := n8_; have HO957 := n9_; have HO962 := n10_; have BK941 := n11_; have BK950 := n12_; have BK959 := n13_; have HB := n14_; clear n0_ n1_ n2_ n3_ n4_ n5_ n6_ n7_ n8_ n9_ n10_ n11_ n12_ n13_ n14_; clear hb ho107) | ((with_reducible refine gate_dst (N := 201) rfl ?_); (try (refine gate_guard (by rfl) ?_; dsimp only)); refine Kd.N_lit (Kd.slice 3 (Kd.int .i64)) _ 60 ?hg (N' := 201) ?hd (xs := ([x20_5, [], x20_5] : List (List Int))) (inner := [.slice Ao83 x20_5.length co83, .slice none 0 0, .slice Ao83 x20_5.length co83]) (ok := (fun k_ => some k_ ≠ (.slice Ao32 x14_3.length co32 : Value).ownBlock ∧ some k_ ≠ (v917 : Value).ownBlock ∧ some k_ ≠ (v923 : Value).ownBlock ∧ some k_ ≠ (.slice Ao87 t934.length co87 : Value).ownBlock ∧ some k_ ≠ (.slice Ao88 t937.length co88 : Value).ownBlock ∧ some k_ ≠ (.slice Ao94 t943.length co94 : Value).ownBlock ∧ some k_ ≠ (.slice Ao95 t946.length co95 : Value).ownBlock ∧ some k_ ≠ (.slice Ao102 t952.length co102 : Value).ownBlock ∧ some k_ ≠ (.slice Ao103 t955.length co103 : Value).ownBlock ∧ some k_ ≠ (v961 : Value).ownBlock ∧ k_ ≠ gb941 ∧ k_ ≠ gb950 ∧ k_ ≠ gb959)) (okp := (fun k_ => some k_ ≠ (.slice Ao32 x14_3.length co32 : Value).ownBlock ∧ some k_ ≠ (v917 : Value).ownBlock ∧ some k_ ≠ (v923 : Value).ownBlock ∧ some k_ ≠ (.slice Ao87 t934.length co87 : Value).ownBlock ∧ some k_ ≠ (.slice Ao88 t937.length co88 : Value).ownBlock ∧ some k_ ≠ (.slice Ao94 t943.length co94 : Value).ownBlock ∧ some k_ ≠ (.slice Ao95 t946.length co95 : Value).ownBlock ∧ some k_ ≠ (.slice Ao102 t952.length co102 : Value).ownBlock ∧ some k_ ≠ (.slice Ao103 t955.length co103 : Value).ownBlock ∧ some k_ ≠ (v961 : Value).ownBlock ∧ k_ ≠ gb941 ∧ k_ ≠ gb950 ∧ k_ ≠ gb959)) ?hr ?hp (fun _ hk => hk) ((show ∀ k_, w106.heap.size ≤ k_ → (fun k_ => some k_ ≠ (.slice Ao32 x14_3.length co32 : Value).ownBlock ∧ some k_ ≠ (v917 : Value).ownBlock ∧ some k_ ≠ (v923 : Value).ownBlock ∧ some k_ ≠ (.slice Ao87 t934.length co87 : Value).ownBlock ∧ some k_ ≠ (.slice Ao88 t937.length co88 : Value).ownBlock ∧ some k_ ≠ (.slice Ao94 t943.length co94 : Value).ownBlock ∧ some k_ ≠ (.slice Ao95 t946.length co95 : Value).ownBlock ∧ some k_ ≠ (.slice Ao102 t952.length co102 : Value).ownBlock ∧ some k_ ≠ (.slice Ao103 t955.length co103 : Value).ownBlock ∧ some k_ ≠ (v961 : Value).ownBlock ∧ k_ ≠ gb941 ∧ k_ ≠ gb950 ∧ k_ ≠ gb959) k_ from fun k_ hk => ⟨Kd.fresh' (Kd.Q_lt HO_14.out) k_ hk, Kd.fresh' (Kd.R_lt HO_18.out) k_ hk, Kd.fresh' (Kd.R_lt HO_19.out) k_ hk, Kd.fresh' (Kd.R_lt HO936.out) k_ hk, Kd.fresh' (Kd.R_lt HO939.out) k_ hk, Kd.fresh' (Kd.R_lt HO945.out) k_ hk, Kd.fresh' (Kd.R_lt HO948.out) k_ hk, Kd.fresh' (Kd.R_lt HO954.out) k_ hk, Kd.fresh' (Kd.R_lt HO957.out) k_ hk, Kd.fresh' (Kd.R_lt HO962.out) k_ hk, Kd.freshB (g := gb941) (o := .cells #[.string t933, .slice Ao87 t934.length co87, .slice Ao88 t937.length co88] 64 (0, 0)) BK941.out k_ hk, Kd.freshB (g := gb950) (o := .cells #[.string t942, .slice Ao94 t943.length co94, .slice Ao95 t946.length co95] 64 (0, 0)) BK950.out k_ hk, Kd.freshB (g := gb959) (o := .cells #[.string t951, .slice Ao102 t952.length co102, .slice Ao103 t955.length co103] 64 (0, 0)) BK959.out k_ hk⟩) _ (Nat.le_refl _)) (Below.refl _ _) (Nat.le_refl _) (by simp) ?_; (case hd => rfl); (case hg => rfl); (case hr => first | (go_simp; done) | (go_simp; rfl)); (case hp => exact (Reps.one (show Kd.FK (Kd.slice 3 (Kd.int .i64)) _ _ x20_5 [.slice Ao83 x20_5.length co83] from (Kd.FK_slice_mk (Kd.R_reads' (Kd.R_mono (ok' := (fun k_ => some k_ ≠ (.slice Ao32 x14_3.length co32 : Value).ownBlock ∧ some k_ ≠ (v917 : Value).ownBlock ∧ some k_ ≠ (v923 : Value).ownBlock ∧ some k_ ≠ (.slice Ao87 t934.length co87 : Value).ownBlock ∧ some k_ ≠ (.slice Ao88 t937.length co88 : Value).ownBlock ∧ some k_ ≠ (.slice Ao94 t943.length co94 : Value).ownBlock ∧ some k_ ≠ (.slice Ao95 t946.length co95 : Value).ownBlock ∧ some k_ ≠ (.slice Ao102 t952.length co102 : Value).ownBlock ∧ some k_ ≠ (.slice Ao103 t955.length co103 : Value).ownBlock ∧ some k_ ≠ (v961 : Value).ownBlock ∧ k_ ≠ gb941 ∧ k_ ≠ gb950 ∧ k_ ≠ gb959)) (Kd.R_types (Kd.R_types (Kd.R_types (Kd.R_apart' (Kd.R_apart' (Kd.R_apart' (Kd.R_apart' (HO_20.out) (Kd.Q_typed HO_14.out) (by decide)) (Kd.R_typed HO_18.out) (by decide)) (Kd.R_typed HO_19.out) (by decide)) (Kd.R_typed HO962.out) (by decide)) BK941.out (by decide)) BK950.out (by decide)) BK959.out (by decide)) (fun k_ hk => ⟨hk.1.1.1.1.1.1.2, ⟨hk.1.1.1.1.1.2, ⟨hk.1.1.1.1.2, ⟨hk.1.1.1.1.1.1.1.1.1.1.1.1.2, ⟨hk.1.1.1.1.1.1.1.1.1.1.1.2, ⟨hk.1.1.1.1.1.1.1.1.1.1.2, ⟨hk.1.1.1.1.1.1.1.1.1.2, ⟨hk.1.1.1.1.1.1.1.1.2, ⟨hk.1.1.1.1.1.1.1.2, ⟨hk.1.1.1.2, ⟨hk.1.1.2, ⟨hk.1.2, hk.2⟩⟩⟩⟩⟩⟩⟩⟩⟩⟩⟩⟩))).2.1 (Kd.R_F (Kd.R_mono (ok' := (fun k_ => some k_ ≠ (.slice Ao32 x14_3.length co32 : Value).ownBlock ∧ some k_ ≠ (v917 : Value).ownBlock ∧ some k_ ≠ (v923 : Value).ownBlock ∧ some k_ ≠ (.slice Ao87 t934.length co87 : Value).ownBlock ∧ some k_ ≠ (.slice Ao88 t937.length co88 : Value).ownBlock ∧ some k_ ≠ (.slice Ao94 t943.length co94 : Value).ownBlock ∧ some k_ ≠ (.slice Ao95 t946.length co95 : Value).ownBlock ∧ some k_ ≠ (.slice Ao102 t952.length co102 : Value).ownBlock ∧ some k_ ≠ (.slice Ao103 t955.length co103 : Value).ownBlock ∧ some k_ ≠ (v961 : Value).ownBlock ∧ k_ ≠ gb941 ∧ k_ ≠ gb950 ∧ k_ ≠ gb959)) (Kd.R_types (Kd.R_types (Kd.R_types (Kd.R_apart' (Kd.R_apart' (Kd.R_apart' (Kd.R_apart' (HO_20.out) (Kd.Q_typed HO_14.out) (by decide)) (Kd.R_typed HO_18.out) (by decide)) (Kd.R_typed HO_19.out) (by decide)) (Kd.R_typed HO962.out) (by decide)) BK941.out (by decide)) BK950.out (by decide)) BK959.out (by decide)) (fun k_ hk => ⟨hk.1.1.1.1.1.1.2, ⟨hk.1.1.1.1.1.2, ⟨hk.1.1.1.1.2, ⟨hk.1.1.1.1.1.1.1.1.1.1.1.1.2, ⟨hk.1.1.1.1.1.1.1.1.1.1.1.2, ⟨hk.1.1.1.1.1.1.1.1.1.1.2, ⟨hk.1.1.1.1.1.1.1.1.1.2, ⟨hk.1.1.1.1.1.1.1.1.2, ⟨hk.1.1.1.1.1.1.1.2, ⟨hk.1.1.1.2, ⟨hk.1.1.2, ⟨hk.1.2, hk.2⟩⟩⟩⟩⟩⟩⟩⟩⟩⟩⟩⟩))))) (Reps.one (show Kd.FK (Kd.slice 3 (Kd.int .i64)) _ _ [] [.slice none 0 0] from (Kd.FK_slice_mk (Nat.le_refl _) (Kd.F_nil _ _ _))) (Reps.one (show Kd.FK (Kd.slice 3 (Kd.int .i64)) _ _ x20_5 [.slice Ao83 x20_5.length co83] from (Kd.FK_slice_mk (Kd.R_reads' (Kd.R_mono (ok' := (fun k_ => some k_ ≠ (.slice Ao32 x14_3.length co32 : Value).ownBlock ∧ some k_ ≠ (v917 : Value).ownBlock ∧ some k_ ≠ (v923 : Value).ownBlock ∧ some k_ ≠ (.slice Ao87 t934.length co87 : Value).ownBlock ∧ some k_ ≠ (.slice Ao88 t937.length co88 : Value).ownBlock ∧ some k_ ≠ (.slice Ao94 t943.length co94 : Value).ownBlock ∧ some k_ ≠ (.slice Ao95 t946.length co95 : Value).ownBlock ∧ some k_ ≠ (.slice Ao102 t952.length co102 : Value).ownBlock ∧ some k_ ≠ (.slice Ao103 t955.length co103 : Value).ownBlock ∧ some k_ ≠ (v961 : Value).ownBlock ∧ k_ ≠ gb941 ∧ k_ ≠ gb950 ∧ k_ ≠ gb959)) (Kd.R_types (Kd.R_types (Kd.R_types (Kd.R_apart' (Kd.R_apart' (Kd.R_apart' (Kd.R_apart' (HO_20.out) (Kd.Q_typed HO_14.out) (by decide)) (Kd.R_typed HO_18.out) (by decide)) (Kd.R_typed HO_19.out) (by decide)) (Kd.R_typed HO962.out) (by decide)) BK941.out (by decide)) BK950.out (by decide)) BK959.out (by decide)) (fun k_ hk => ⟨hk.1.1.1.1.1.1.2, ⟨hk.1.1.1.1.1.2, ⟨hk.1.1.1.1.2, ⟨hk.1.1.1.1.1.1.1.1.1.1.1.1.2, ⟨hk.1.1.1.1.1.1.1.1.1.1.1.2, ⟨hk.1.1.1.1.1.1.1.1.1.1.2, ⟨hk.1.1.1.1.1.1.1.1.1.2, ⟨hk.1.1.1.1.1.1.1.1.2, ⟨hk.1.1.1.1.1.1.1.2, ⟨hk.1.1.1.2, ⟨hk.1.1.2, ⟨hk.1.2, hk.2⟩⟩⟩⟩⟩⟩⟩⟩⟩⟩⟩⟩))).2.1 (Kd.R_F (Kd.R_mono (ok' := (fun k_ => some k_ ≠ (.slice Ao32 x14_3.length co32 : Value).ownBlock ∧ some k_ ≠ (v917 : Value).ownBlock ∧ some k_ ≠ (v923 : Value).ownBlock ∧ some k_ ≠ (.slice Ao87 t934.length co87 : Value).ownBlock ∧ some k_ ≠ (.slice Ao88 t937.length co88 : Value).ownBlock ∧ some k_ ≠ (.slice Ao94 t943.length co94 : Value).ownBlock ∧ some k_ ≠ (.slice Ao95 t946.length co95 : Value).ownBlock ∧ some k_ ≠ (.slice Ao102 t952.length co102 : Value).ownBlock ∧ some k_ ≠ (.slice Ao103 t955.length co103 : Value).ownBlock ∧ some k_ ≠ (v961 : Value).ownBlock ∧ k_ ≠ gb941 ∧ k_ ≠ gb950 ∧ k_ ≠ gb959)) (Kd.R_types (Kd.R_types (Kd.R_types (Kd.R_apart' (Kd.R_apart' (Kd.R_apart' (Kd.R_apart' (HO_20.out) (Kd.Q_typed HO_14.out) (by decide)) (Kd.R_typed HO_18.out) (by decide)) (Kd.R_typed HO_19.out) (by decide)) (Kd.R_typed HO962.out) (by decide)) BK941.out (by decide)) BK950.out (by decide)) BK959.out (by decide)) (fun k_ hk => ⟨hk.1.1.1.1.1.1.2, ⟨hk.1.1.1.1.1.2, ⟨hk.1.1.1.1.2, ⟨hk.1.1.1.1.1.1.1.1.1.1.1.1.2, ⟨hk.1.1.1.1.1.1.1.1.1.1.1.2, ⟨hk.1.1.1.1.1.1.1.1.1.1.2, ⟨hk.1.1.1.1.1.1.1.1.1.2, ⟨hk.1.1.1.1.1.1.1.1.2, ⟨hk.1.1.1.1.1.1.1.2, ⟨hk.1.1.1.2, ⟨hk.1.1.2, ⟨hk.1.2, hk.2⟩⟩⟩⟩⟩⟩⟩⟩⟩⟩⟩⟩))))) (Reps.none _ _))))); intro v964 w108 ho109 hb hg_ hnew_; clear hg_ hnew_; (first | rw [← Ny963.out] at ho109 | (simp only [Int.reduceToNat] at ho109; rw [← Ny963.out] at ho109)); have n0_ := Aside0.mk (Kd.Q_below HO_14.out hb); have n1_ := Aside0.mk (Kd.R_below HO_18.out hb); have n2_ := Aside0.mk (Kd.R_below HO_19.out hb); have n3_ := Aside0.mk (Kd.R_below HO936.out hb); have n4_ := Aside0.mk (Kd.R_below HO939.out hb); have n5_ := Aside0.mk (Kd.R_below HO945.out hb); have n6_ := Aside0.mk (Kd.R_below HO948.out hb); have n7_ := Aside0.mk (Kd.R_below HO954.out hb); have n8_ := Aside0.mk (Kd.R_below HO957.out hb); have n9_ := Aside0.mk (Kd.R_below HO962.out hb); have n10_ := Aside0.mk (Kd.N_lower ho109 (below_size (by repeat (first | (with_reducible first | exact HB.out | apply below_alloc | apply pw_below_drewN | apply below_drew1 | refine below_set ?_ GE941.out | refine below_set ?_ GE950.out | refine below_set ?_ GE959.out) | exact HB.out)))); have n11_ := Aside0.mk (blk_below (g := gb941) (o := .cells #[.string t933, .slice Ao87 t934.length co87, .slice Ao88 t937.length co88] 64 (0, 0)) BK941.out hb); have n12_ := Aside0.mk (blk_below (g := gb950) (o := .cells #[.string t942, .slice Ao94 t943.length co94, .slice Ao95 t946.length co95] 64 (0, 0)) BK950.out hb); have n13_ := Aside0.mk (blk_below (g := gb959) (o := .cells #[.string t951, .slice Ao102 t952.length co102, .slice Ao103 t955.length co103] 64 (0, 0)) BK959.out hb); have n14_ := Aside0.mk (below_step (by repeat (first | (with_reducible first | exact HB.out | apply below_alloc | apply pw_below_drewN | apply below_drew1 | refine below_set ?_ GE941.out | refine below_set ?_ GE950.out | refine below_set ?_ GE959.out) | exact HB.out)) hb); clear HO_14 HO_18 HO_19 HO936 HO939 HO945 HO948 HO954 HO957 HO962 BK941 BK950 BK959 HB HO_20; have HO_14 := n0_; have HO_18 := n1_; have HO_19 := n2_; have HO936 := n3_; have HO939 := n4_; have HO945 := n5_; have HO948 := n6_; have HO954 := n7_; have HO957 := n8_; have HO962 := n9_; have HO965 := n10_; have BK941 := n11_; have BK950 := n12_; have BK959 := n13_; have HB := n14_; clear n0_ n1_ n2_ n3_ n4_ n5_ n6_ n7_ n8_ n9_ n10_ n11_ n12_ n13_ n14_ hb ho109; obtain ⟨Ao110, co110, eo110⟩ := Kd.R_slice HO962.out; subst eo110; obtain ⟨Ao111, co111, eo111⟩ := Kd.N_slice HO965.out; subst eo111) | ((with_reducible refine gate_callee (f := 54) rfl ?_); refine goesL_ (some 202) rfl rfl Try.func54 (by kernel_rfl) rfl #[.slice Ao110 y960.length co110, .int .i64 t909, .slice Ao111 y963.length co111] rfl (by (try simp only [List.map_toArray, List.map_cons, List.map_nil]); first | done | rfl | (simp only [List.length_drop, List.length_take]; rfl)) ?_; (with_reducible refine (mend_All.calls k6 _ _ y960 t909 _ _ y963 t966 t967 t968 _ ?side1 ?side2 ?side3 ?side4 A80.out).mono ?_); (case side1 => repeat (first | exact (Kd.R_reads' HO962.out).2.2 | (with_reducible refine Kd.C_alloc ?_ _) | (with_reducible refine Kd.C_drewN ?_ _) | (with_reducible refine Kd.C_drew ?_))); (case side2 => exact (Kd.R_reads' HO962.out).2.1); (case side3 => repeat (first | exact (Kd.N_reads' HO965.out).2.2 | (with_reducible refine Kd.C_alloc ?_ _) | (with_reducible refine Kd.C_drewN ?_ _) | (with_reducible refine Kd.C_drew ?_))); (case side4 => exact (Kd.N_reads' HO965.out).2.1); rintro e w112 ⟨v969, v971, rfl, ho0, ho1, hb⟩; refine ⟨_, rfl, ?_⟩; have n0_ := Aside0.mk (Kd.Q_below HO_14.out hb); have n1_ := Aside0.mk (Kd.R_below HO_18.out hb); have n2_ := Aside0.mk (Kd.R_below HO_19.out hb); have n3_ := Aside0.mk (Kd.R_elder' HO936.out (Kd.R_base ho1) hb); have n4_ := Aside0.mk (Kd.R_elder' HO939.out (Kd.R_base ho1) hb); have n5_ := Aside0.mk (Kd.R_elder' HO945.out (Kd.R_base ho1) hb); have n6_ := Aside0.mk (Kd.R_elder' HO948.out (Kd.R_base ho1) hb); have n7_ := Aside0.mk (Kd.R_elder' HO954.out (Kd.R_base ho1) hb); have n8_ := Aside0.mk (Kd.R_elder' HO957.out (Kd.R_base ho1) hb); have n9_ := Aside0.mk (Kd.R_below HO962.out hb); have n10_ := Aside0.mk (Kd.N_mono (Kd.N_told (Kd.N_told (Kd.N_old HO965.out hb) (Kd.S_base ho0)) (Kd.R_base ho1)) (fun _ h_ => h_.1)); have n11_ := Aside0.mk (Kd.N_lower (Kd.N_mono (ok' := fun k_ => some k_ ≠ (v971 : Value).ownBlock ∧ some k_ ≠ (.slice Ao32 x14_3.length co32 : Value).ownBlock ∧ some k_ ≠ (v917 : Value).ownBlock ∧ some k_ ≠ (v923 : Value).ownBlock ∧ some k_ ≠ (.slice Ao87 t934.length co87 : Value).ownBlock ∧ some k_ ≠ (.slice Ao88 t937.length co88 : Value).ownBlock ∧ some k_ ≠ (.slice Ao94 t943.length co94 : Value).ownBlock ∧ some k_ ≠ (.slice Ao95 t946.length co95 : Value).ownBlock ∧ some k_ ≠ (.slice Ao102 t952.length co102 : Value).ownBlock ∧ some k_ ≠ (.slice Ao103 t955.length co103 : Value).ownBlock ∧ some k_ ≠ (.slice Ao110 y960.length co110 : Value).ownBlock ∧ some k_ ≠ (.slice Ao111 y963.length co111 : Value).ownBlock ∧ k_ ≠ gb941 ∧ k_ ≠ gb950 ∧ k_ ≠ gb959) (Kd.S_N (Kd.S_bound ho0)) (fun k_ hk_ => ⟨hk_.1, (Kd.fresh' (Kd.Q_lt HO_14.out) k_ hk_.2.1), (Kd.fresh' (Kd.R_lt HO_18.out) k_ hk_.2.1), (Kd.fresh' (Kd.R_lt HO_19.out) k_ hk_.2.1), (Kd.fresh' (Kd.R_lt HO936.out) k_ hk_.2.1), (Kd.fresh' (Kd.R_lt HO939.out) k_ hk_.2.1), (Kd.fresh' (Kd.R_lt HO945.out) k_ hk_.2.1), (Kd.fresh' (Kd.R_lt HO948.out) k_ hk_.2.1), (Kd.fresh' (Kd.R_lt HO954.out) k_ hk_.2.1), (Kd.fresh' (Kd.R_lt HO957.out) k_ hk_.2.1), (Kd.fresh' (Kd.R_lt HO962.out) k_ hk_.2.1), (Kd.fresh' (Kd.N_lt HO965.out) k_ hk_.2.1), (Kd.freshB (g := gb941) (o := .cells #[.string t933, .slice Ao87 t934.length co87, .slice Ao88 t937.length co88] 64 (0, 0)) BK941.out k_ hk_.2.1), (Kd.freshB (g := gb950) (o := .cells #[.string t942, .slice Ao94 t943.length co94, .slice Ao95 t946.length co95] 64 (0, 0)) BK950.out k_ hk_.2.1), (Kd.freshB (g := gb959) (o := .cells #[.string t951, .slice Ao102 t952.length co102, .slice Ao103 t955.length co103] 64 (0, 0)) BK959.out k_ hk_.2.1)⟩)) (below_size (by repeat (first | (with_reducible first | exact HB.out | apply below_alloc | apply pw_below_drewN | apply below_drew1 | refine below_set ?_ GE941.out | refine below_set ?_ GE950.out | refine below_set ?_ GE959.out) | exact HB.out)))); have n12_ := Aside0.mk (Kd.R_lower (Kd.R_new' (Kd.R_new' (Kd.R_new' (Kd.R_new' (Kd.R_new' (Kd.R_new' ho1 (Kd.R_lt HO936.out)) (Kd.R_lt HO939.out)) (Kd.R_lt HO945.out)) (Kd.R_lt HO948.out)) (Kd.R_lt HO954.out)) (Kd.R_lt HO957.out)) (below_size (by repeat (first | (with_reducible first | exact HB.out | apply below_alloc | apply pw_below_drewN | apply below_drew1 | refine below_set ?_ GE941.out | refine below_set ?_ GE950.out | refine below_set ?_ GE959.out) | exact HB.out)))); have n13_ := Aside0.mk (blk_below (g := gb941) (o := .cells #[.string t933, .slice Ao87 t934.length co87, .slice Ao88 t937.length co88] 64 (0, 0)) BK941.out hb); have n14_ := Aside0.mk (blk_below (g := gb950) (o := .cells #[.string t942, .slice Ao94 t943.length co94, .slice Ao95 t946.length co95] 64 (0, 0)) BK950.out hb); have n15_ := Aside0.mk (blk_below (g := gb959) (o := .cells #[.string t951, .slice Ao102 t952.length co102, .slice Ao103 t955.length co103] 64 (0, 0)) BK959.out hb); have n16_ := Aside0.mk (below_step (by repeat (first | (with_reducible first | exact HB.out | apply below_alloc | apply pw_below_drewN | apply below_drew1 | refine below_set ?_ GE941.out | refine below_set ?_ GE950.out | refine below_set ?_ GE959.out) | exact HB.out)) hb); clear HO_14 HO_18 HO_19 HO936 HO939 HO945 HO948 HO954 HO957 HO962 HO965 BK941 BK950 BK959 HB; have HO_14 := n0_; have HO_18 := n1_; have HO_19 := n2_; have HO936 := n3_; have HO939 := n4_; have HO945 := n5_; have HO948 := n6_; have HO954 := n7_; have HO957 := n8_; have HO962 := n9_; have HO965 := n10_; have HO970 := n11_; have HO972 := n12_; have BK941 := n13_; have BK950 := n14_; have BK959 := n15_; have HB := n16_; clear n0_ n1_ n2_ n3_ n4_ n5_ n6_ n7_ n8_ n9_ n10_ n11_ n12_ n13_ n14_ n15_ n16_; (try clear hb); (try clear hb2); (try clear hk); (try clear hi); (try clear ho0); (try clear ho1)))
                        (try simp only [Act.put, List.setIfInBounds_toArray, List.set_cons_zero, List.set_cons_succ])
                        go_cut [273] (fun v273 wc => ∃ (kq : Nat) (x273_80 : Bool), v273 = .bool x273_80 ∧ Aside0 (foghornlaw20_MendOver.j8 kq t908 t914 t940 x273_80 t933 t934 t937 t942 t943 t946 t951 t952 t955 = some r) ∧ Aside0 (kq ≤ k6) ∧ Aside0 (Kd.R (Kd.int .i64) 3 wc w.heap.size (fun k_ => some k_ ≠ ((.slice Ao88 t937.length co88) : Value).ownBlock ∧ some k_ ≠ ((.slice Ao94 t943.length co94) : Value).ownBlock ∧ some k_ ≠ ((.slice Ao95 t946.length co95) : Value).ownBlock ∧ some k_ ≠ ((.slice Ao102 t952.length co102) : Value).ownBlock ∧ some k_ ≠ ((.slice Ao103 t955.length co103) : Value).ownBlock) (.slice Ao87 t934.length co87) t934) ∧ Aside0 (Kd.R (Kd.int .i64) 3 wc w.heap.size (fun k_ => some k_ ≠ ((.slice Ao87 t934.length co87) : Value).ownBlock ∧ some k_ ≠ ((.slice Ao94 t943.length co94) : Value).ownBlock ∧ some k_ ≠ ((.slice Ao95 t946.length co95) : Value).ownBlock ∧ some k_ ≠ ((.slice Ao102 t952.length co102) : Value).ownBlock ∧ some k_ ≠ ((.slice Ao103 t955.length co103) : Value).ownBlock) (.slice Ao88 t937.length co88) t937) ∧ Aside0 (Kd.R (Kd.int .i64) 3 wc w.heap.size (fun k_ => some k_ ≠ ((.slice Ao87 t934.length co87) : Value).ownBlock ∧ some k_ ≠ ((.slice Ao88 t937.length co88) : Value).ownBlock ∧ some k_ ≠ ((.slice Ao95 t946.length co95) : Value).ownBlock ∧ some k_ ≠ ((.slice Ao102 t952.length co102) : Value).ownBlock ∧ some k_ ≠ ((.slice Ao103 t955.length co103) : Value).ownBlock) (.slice Ao94 t943.length co94) t943) ∧ Aside0 (Kd.R (Kd.int .i64) 3 wc w.heap.size (fun k_ => some k_ ≠ ((.slice Ao87 t934.length co87) : Value).ownBlock ∧ some k_ ≠ ((.slice Ao88 t937.length co88) : Value).ownBlock ∧ some k_ ≠ ((.slice Ao94 t943.length co94) : Value).ownBlock ∧ some k_ ≠ ((.slice Ao102 t952.length co102) : Value).ownBlock ∧ some k_ ≠ ((.slice Ao103 t955.length co103) : Value).ownBlock) (.slice Ao95 t946.length co95) t946) ∧ Aside0 (Kd.R (Kd.int .i64) 3 wc w.heap.size (fun k_ => some k_ ≠ ((.slice Ao87 t934.length co87) : Value).ownBlock ∧ some k_ ≠ ((.slice Ao88 t937.length co88) : Value).ownBlock ∧ some k_ ≠ ((.slice Ao94 t943.length co94) : Value).ownBlock ∧ some k_ ≠ ((.slice Ao95 t946.length co95) : Value).ownBlock ∧ some k_ ≠ ((.slice Ao103 t955.length co103) : Value).ownBlock) (.slice Ao102 t952.length co102) t952) ∧ Aside0 (Kd.R (Kd.int .i64) 3 wc w.heap.size (fun k_ => some k_ ≠ ((.slice Ao87 t934.length co87) : Value).ownBlock ∧ some k_ ≠ ((.slice Ao88 t937.length co88) : Value).ownBlock ∧ some k_ ≠ ((.slice Ao94 t943.length co94) : Value).ownBlock ∧ some k_ ≠ ((.slice Ao95 t946.length co95) : Value).ownBlock ∧ some k_ ≠ ((.slice Ao102 t952.length co102) : Value).ownBlock) (.slice Ao103 t955.length co103) t955) ∧ Aside0 (wc.heap[gb941]? = some (.cells #[.string t933, (.slice Ao87 t934.length co87), (.slice Ao88 t937.length co88)] 64 (0, 0))) ∧ Aside0 (wc.heap[gb950]? = some (.cells #[.string t942, (.slice Ao94 t943.length co94), (.slice Ao95 t946.length co95)] 64 (0, 0))) ∧ Aside0 (wc.heap[gb959]? = some (.cells #[.string t951, (.slice Ao102 t952.length co102), (.slice Ao103 t955.length co103)] 64 (0, 0))) ∧ Aside0 (Below w.heap.size w wc))
                        case first =>
                         have H := HC81.out; clear HC81
                         by_cases c113 : t940 = t949
                         ·rw [if_pos c113] at H
                          have c113b0 : (t940 == t949) = true := beq_iff_eq.mpr c113
                          have c113b1 : (t940 != t949) = false := bne_eq_false_iff_eq.mpr c113
                          clear c113
                          (first | rw [c113b0] | (simp only [i64_w, i32_w]; rw [c113b0]) | skip)
                          by_cases c114 : t940 = t958
                          ·rw [if_pos c114] at H
                           have c114b0 : (t940 == t958) = true := beq_iff_eq.mpr c114
                           have c114b1 : (t940 != t958) = false := bne_eq_false_iff_eq.mpr c114
                           clear c114
                           by_cases c115 : t968 = 0
                           ·rw [if_pos c115] at H
                            have c115b0 : (t968 == 0) = true := beq_iff_eq.mpr c115
                            have c115b1 : (t968 != 0) = false := bne_eq_false_iff_eq.mpr c115
                            clear c115
                            by_cases c116 : (t966.length : Int) = 3
                            ·rw [if_pos c116] at H
                             have c116b0 : ((t966.length : Int) == 3) = true := beq_iff_eq.mpr c116
                             have c116b1 : ((t966.length : Int) != 3) = false := bne_eq_false_iff_eq.mpr c116
                             clear c116
                             by_cases c117 : t933.toList = t951.toList
                             ·rw [if_pos c117] at H
                              have c117b0 : (t933.toList == t951.toList) = true := beq_iff_eq.mpr c117
                              have c117b1 : (t933.toList != t951.toList) = false := bne_eq_false_iff_eq.mpr c117
                              clear c117
                              by_cases c118 : 0 < (t966.length : Int)
                              ·rw [if_pos c118] at H
                               have c118b0 : decide (0 < (t966.length : Int)) = true := decide_eq_true c118
                               have c118b1 : decide (0 < t966.length) = true := decide_eq_true (by omega)
                               clear c118
                               by_cases c119 : ((rd_T64 t966 0).f0).toList = t933.toList
                               ·rw [if_pos c119] at H
                                have c119b0 : (((rd_T64 t966 0).f0).toList == t933.toList) = true := beq_iff_eq.mpr c119
                                have c119b1 : (((rd_T64 t966 0).f0).toList != t933.toList) = false := bne_eq_false_iff_eq.mpr c119
                                clear c119
                                by_cases c120 : 1 < (t966.length : Int)
                                ·rw [if_pos c120] at H
                                 have c120b0 : decide (1 < (t966.length : Int)) = true := decide_eq_true c120
                                 have c120b1 : decide (1 < t966.length) = true := decide_eq_true (by omega)
                                 clear c120
                                 by_cases c121 : ((rd_T64 t966 1).f0).toList = t908.toList
                                 ·rw [if_pos c121] at H
                                  have c121b0 : (((rd_T64 t966 1).f0).toList == t908.toList) = true := beq_iff_eq.mpr c121
                                  have c121b1 : (((rd_T64 t966 1).f0).toList != t908.toList) = false := bne_eq_false_iff_eq.mpr c121
                                  clear c121
                                  by_cases c122 : 2 < (t966.length : Int)
                                  ·rw [if_pos c122] at H
                                   have c122b0 : decide (2 < (t966.length : Int)) = true := decide_eq_true c122
                                   have c122b1 : decide (2 < t966.length) = true := decide_eq_true (by omega)
                                   clear c122
                                   by_cases c123 : ((rd_T64 t966 2).f0).toList = t942.toList
                                   ·rw [if_pos c123] at H
                                    have c123b0 : (((rd_T64 t966 2).f0).toList == t942.toList) = true := beq_iff_eq.mpr c123
                                    have c123b1 : (((rd_T64 t966 2).f0).toList != t942.toList) = false := bne_eq_false_iff_eq.mpr c123
                                    clear c123
                                    by_cases c124 : (((t967.length : Int) == 0) != (t940 == 0)) = true
                                    ·rw [if_pos c124] at H
                                     have c124b0 : (((t967.length : Int) == 0) != (t940 == 0)) = true := c124
                                     (try (have c124b1 : decide (((t967.length : Int) == 0) = (t940 == 0)) = false := by simpa using c124))
                                     (try (have c124b2 : (((t967.length : Int) == 0) == (t940 == 0)) = false := by simpa using c124))
                                     (try (have c124b3 : ¬ (((t967.length : Int) == 0) = (t940 == 0)) := by simpa using c124))
                                     clear c124
                                     as_aux_lemma =>
                                      exact absurd (H.trans (congrArg some HQ_.out)) (foghornlaw20_MendOver.j8_no _ _ _ _ _ _ _ _ _ _ _ _ _)
                                    ·rw [if_neg c124] at H
                                     have c124b0 : (((t967.length : Int) == 0) != (t940 == 0)) = false := by simpa using c124
                                     (try (have c124b1 : decide (((t967.length : Int) == 0) = (t940 == 0)) = true := by simpa using c124))
                                     (try (have c124b2 : (((t967.length : Int) == 0) == (t940 == 0)) = true := by simpa using c124))
                                     clear c124
                                     by_cases c128 : (t967.length : Int) = 0
                                     ·rw [if_pos c128] at H
                                      have c128b0 : ((t967.length : Int) == 0) = true := beq_iff_eq.mpr c128
                                      have c128x : (t940 == 0) = true := by have h_ := c124b0; rw [c128b0] at h_; simpa using h_
                                      have c128b1 : ((t967.length : Int) != 0) = false := bne_eq_false_iff_eq.mpr c128
                                      clear c128
                                      as_aux_lemma =>
                                       have H' := Aside0.mk H
                                       clear H
                                       try go_wp2
                                       have n0_ := Aside0.mk (Kd.Q_drew HO_14.out); have n1_ := Aside0.mk (Kd.R_drew HO_18.out); have n2_ := Aside0.mk (Kd.R_drew HO_19.out); have n3_ := Aside0.mk (Kd.R_drew HO936.out); have n4_ := Aside0.mk (Kd.R_drew HO939.out); have n5_ := Aside0.mk (Kd.R_drew HO945.out); have n6_ := Aside0.mk (Kd.R_drew HO948.out); have n7_ := Aside0.mk (Kd.R_drew HO954.out); have n8_ := Aside0.mk (Kd.R_drew HO957.out); have n9_ := Aside0.mk (Kd.R_drew HO962.out); have n10_ := Aside0.mk (Kd.N_drew HO965.out); have n11_ := Aside0.mk (Kd.N_drew HO970.out); have n12_ := Aside0.mk (Kd.R_drew HO972.out); have n13_ := Aside0.mk (blk_drew BK941.out); have n14_ := Aside0.mk (blk_drew BK950.out); have n15_ := Aside0.mk (blk_drew BK959.out); have n16_ := Aside0.mk (below_drew1 HB.out); clear HO_14; clear HO_18; clear HO_19; clear HO936; clear HO939; clear HO945; clear HO948; clear HO954; clear HO957; clear HO962; clear HO965; clear HO970; clear HO972; clear BK941; clear BK950; clear BK959; clear HB; have HO_14 := n0_; have HO_18 := n1_; have HO_19 := n2_; have HO936 := n3_; have HO939 := n4_; have HO945 := n5_; have HO948 := n6_; have HO954 := n7_; have HO957 := n8_; have HO962 := n9_; have HO965 := n10_; have HO970 := n11_; have HO972 := n12_; have BK941 := n13_; have BK950 := n14_; have BK959 := n15_; have HB := n16_; clear n0_ n1_ n2_ n3_ n4_ n5_ n6_ n7_ n8_ n9_ n10_ n11_ n12_ n13_ n14_ n15_ n16_
                                       obtain ⟨Ao130, co130, eo130⟩ := Kd.N_slice HO970.out
                                       (first | subst eo130 | (injection eo130 with f1_ f2_ f3_; have f4_ := f1_.symm; have f5_ := f3_.symm; clear f1_ f2_ f3_; subst f4_; subst f5_))
                                       have p973 : 0 ≤ (0 : Int) := (by omega)
                                       have q973 : 0 < (t966.length : Int) := of_decide_eq_true (by first | (with_reducible assumption) | assumption)
                                       obtain ⟨ad973, A973_1, c973_1, A973_2, c973_2, e973, hx973_0, hx973_1, hx973_2, hl973_1, hi973_1, hl973_2, hi973_2⟩ := at_T64 (Kd.N_reads' HO970.out).2.2 0 p973 q973
                                       cases e973
                                       obtain ⟨ce973, hce973, hMe973, hcc973⟩ := Kd.N_get HO970.out z64 0 p973 (by first | exact q973 | exact of_decide_eq_true (by first | (with_reducible assumption) | assumption) | (have e_ := (Kd.N_reads' HO970.out).1; omega))
                                       obtain ⟨ua973_1, uc973_1, ua973_2, uc973_2, rfl, ul973_1, ge973_1, ul973_2, ge973_2⟩ := k64_openF hMe973
                                       have hv973_1 := hcc973 1 _ rfl
                                       rw [add_field _ _ 1 (by omega)] at hv973_1
                                       replace hv973_1 := Option.some.inj (hv973_1.symm.trans hx973_1)
                                       injection hv973_1 with hva_ hvn_ hvc_
                                       rw [hva_] at ge973_1
                                       rw [hvc_] at ul973_1
                                       have HL973_1 := Aside0.mk (show Kd.V (Kd.int .i64) 3 _ w.heap.size _ _ ((rd_T64 t966 0).f1) from Kd.V_mk ul973_1 ge973_1)
                                       clear hva_ hvn_ hvc_ ge973_1 ul973_1; have hv973_2 := hcc973 2 _ rfl
                                       rw [add_field _ _ 2 (by omega)] at hv973_2
                                       replace hv973_2 := Option.some.inj (hv973_2.symm.trans hx973_2)
                                       injection hv973_2 with hva_ hvn_ hvc_
                                       rw [hva_] at ge973_2
                                       rw [hvc_] at ul973_2
                                       have HL973_2 := Aside0.mk (show Kd.V (Kd.int .i64) 3 _ w.heap.size _ _ ((rd_T64 t966 0).f2) from Kd.V_mk ul973_2 ge973_2)
                                       clear hva_ hvn_ hvc_ ge973_2 ul973_2; clear hcc973 hce973
                                       have qi973 : (0 < t966.length) = True := eq_true (by omega)
                                       (try rw [show ((0 : Int)).toNat = 0 from rfl] at hx973_0)
                                       (try rw [show 0 * 3 = 0 from rfl] at hx973_0)
                                       (try rw [Addr.add_zero'] at hx973_0)
                                       (try rw [show ((0 : Int)).toNat = 0 from rfl] at hx973_1)
                                       (try rw [show 0 * 3 = 0 from rfl] at hx973_1)
                                       (try rw [Addr.add_zero'] at hx973_1)
                                       (try rw [show ((0 : Int)).toNat = 0 from rfl] at hx973_2)
                                       (try rw [show 0 * 3 = 0 from rfl] at hx973_2)
                                       (try rw [Addr.add_zero'] at hx973_2)
                                       have HR973_1 := Aside0.mk hi973_1; have HC973_1 := Aside0.mk hl973_1; clear hi973_1 hl973_1; have HR973_2 := Aside0.mk hi973_2; have HC973_2 := Aside0.mk hl973_2; clear hi973_2 hl973_2; replace p973 := eq_true p973; replace q973 := eq_true q973
                                       have p974 : 0 ≤ (1 : Int) := (by omega)
                                       have q974 : 1 < (t966.length : Int) := of_decide_eq_true (by first | (with_reducible assumption) | assumption)
                                       obtain ⟨ad974, A974_1, c974_1, A974_2, c974_2, e974, hx974_0, hx974_1, hx974_2, hl974_1, hi974_1, hl974_2, hi974_2⟩ := at_T64 (Kd.N_reads' HO970.out).2.2 1 p974 q974
                                       obtain rfl : ad973 = ad974 := (by injection e974)
                                       obtain ⟨ce974, hce974, hMe974, hcc974⟩ := Kd.N_get HO970.out z64 1 p974 (by first | exact q974 | exact of_decide_eq_true (by first | (with_reducible assumption) | assumption) | (have e_ := (Kd.N_reads' HO970.out).1; omega))
                                       obtain ⟨ua974_1, uc974_1, ua974_2, uc974_2, rfl, ul974_1, ge974_1, ul974_2, ge974_2⟩ := k64_openF hMe974
                                       have hv974_1 := hcc974 1 _ rfl
                                       rw [add_field _ _ 1 (by omega)] at hv974_1
                                       replace hv974_1 := Option.some.inj (hv974_1.symm.trans hx974_1)
                                       injection hv974_1 with hva_ hvn_ hvc_
                                       rw [hva_] at ge974_1
                                       rw [hvc_] at ul974_1
                                       have HL974_1 := Aside0.mk (show Kd.V (Kd.int .i64) 3 _ w.heap.size _ _ ((rd_T64 t966 1).f1) from Kd.V_mk ul974_1 ge974_1)
                                       clear hva_ hvn_ hvc_ ge974_1 ul974_1; have hv974_2 := hcc974 2 _ rfl
                                       rw [add_field _ _ 2 (by omega)] at hv974_2
                                       replace hv974_2 := Option.some.inj (hv974_2.symm.trans hx974_2)
                                       injection hv974_2 with hva_ hvn_ hvc_
                                       rw [hva_] at ge974_2
                                       rw [hvc_] at ul974_2
                                       have HL974_2 := Aside0.mk (show Kd.V (Kd.int .i64) 3 _ w.heap.size _ _ ((rd_T64 t966 1).f2) from Kd.V_mk ul974_2 ge974_2)
                                       clear hva_ hvn_ hvc_ ge974_2 ul974_2; clear hcc974 hce974
                                       (try simp only [show (1 : Int).toNat = 1 from rfl, Nat.reduceMul, Nat.reduceEqDiff, Go.Addr.add, ↓reduceIte] at hx974_0)
                                       (try simp only [show (1 : Int).toNat = 1 from rfl, Nat.reduceMul, Nat.reduceEqDiff, Go.Addr.add, ↓reduceIte] at hx974_1)
                                       (try simp only [show (1 : Int).toNat = 1 from rfl, Nat.reduceMul, Nat.reduceEqDiff, Go.Addr.add, ↓reduceIte] at hx974_2)
                                       have qi974 : (1 < t966.length) = True := eq_true (by omega)
                                       (try rw [show ((1 : Int)).toNat = 1 from rfl] at hx974_0)
                                       (try rw [show 1 * 3 = 3 from rfl] at hx974_0)
                                       (try rw [show ((1 : Int)).toNat = 1 from rfl] at hx974_1)
                                       (try rw [show 1 * 3 = 3 from rfl] at hx974_1)
                                       (try rw [show ((1 : Int)).toNat = 1 from rfl] at hx974_2)
                                       (try rw [show 1 * 3 = 3 from rfl] at hx974_2)
                                       have HR974_1 := Aside0.mk hi974_1; have HC974_1 := Aside0.mk hl974_1; clear hi974_1 hl974_1; have HR974_2 := Aside0.mk hi974_2; have HC974_2 := Aside0.mk hl974_2; clear hi974_2 hl974_2; replace p974 := eq_true p974; replace q974 := eq_true q974
                                       have p975 : 0 ≤ (2 : Int) := (by omega)
                                       have q975 : 2 < (t966.length : Int) := of_decide_eq_true (by first | (with_reducible assumption) | assumption)
                                       obtain ⟨ad975, A975_1, c975_1, A975_2, c975_2, e975, hx975_0, hx975_1, hx975_2, hl975_1, hi975_1, hl975_2, hi975_2⟩ := at_T64 (Kd.N_reads' HO970.out).2.2 2 p975 q975
                                       obtain rfl : ad973 = ad975 := (by injection e975)
                                       obtain ⟨ce975, hce975, hMe975, hcc975⟩ := Kd.N_get HO970.out z64 2 p975 (by first | exact q975 | exact of_decide_eq_true (by first | (with_reducible assumption) | assumption) | (have e_ := (Kd.N_reads' HO970.out).1; omega))
                                       obtain ⟨ua975_1, uc975_1, ua975_2, uc975_2, rfl, ul975_1, ge975_1, ul975_2, ge975_2⟩ := k64_openF hMe975
                                       have hv975_1 := hcc975 1 _ rfl
                                       rw [add_field _ _ 1 (by omega)] at hv975_1
                                       replace hv975_1 := Option.some.inj (hv975_1.symm.trans hx975_1)
                                       injection hv975_1 with hva_ hvn_ hvc_
                                       rw [hva_] at ge975_1
                                       rw [hvc_] at ul975_1
                                       have HL975_1 := Aside0.mk (show Kd.V (Kd.int .i64) 3 _ w.heap.size _ _ ((rd_T64 t966 2).f1) from Kd.V_mk ul975_1 ge975_1)
                                       clear hva_ hvn_ hvc_ ge975_1 ul975_1; have hv975_2 := hcc975 2 _ rfl
                                       rw [add_field _ _ 2 (by omega)] at hv975_2
                                       replace hv975_2 := Option.some.inj (hv975_2.symm.trans hx975_2)
                                       injection hv975_2 with hva_ hvn_ hvc_
                                       rw [hva_] at ge975_2
                                       rw [hvc_] at ul975_2
                                       have HL975_2 := Aside0.mk (show Kd.V (Kd.int .i64) 3 _ w.heap.size _ _ ((rd_T64 t966 2).f2) from Kd.V_mk ul975_2 ge975_2)
                                       clear hva_ hvn_ hvc_ ge975_2 ul975_2; clear hcc975 hce975
                                       (try simp only [show (2 : Int).toNat = 2 from rfl, Nat.reduceMul, Nat.reduceEqDiff, Go.Addr.add, ↓reduceIte] at hx975_0)
                                       (try simp only [show (2 : Int).toNat = 2 from rfl, Nat.reduceMul, Nat.reduceEqDiff, Go.Addr.add, ↓reduceIte] at hx975_1)
                                       (try simp only [show (2 : Int).toNat = 2 from rfl, Nat.reduceMul, Nat.reduceEqDiff, Go.Addr.add, ↓reduceIte] at hx975_2)
                                       have qi975 : (2 < t966.length) = True := eq_true (by omega)
                                       (try rw [show ((2 : Int)).toNat = 2 from rfl] at hx975_0)
                                       (try rw [show 2 * 3 = 6 from rfl] at hx975_0)
                                       (try rw [show ((2 : Int)).toNat = 2 from rfl] at hx975_1)
                                       (try rw [show 2 * 3 = 6 from rfl] at hx975_1)
                                       (try rw [show ((2 : Int)).toNat = 2 from rfl] at hx975_2)
                                       (try rw [show 2 * 3 = 6 from rfl] at hx975_2)
                                       have HR975_1 := Aside0.mk hi975_1; have HC975_1 := Aside0.mk hl975_1; clear hi975_1 hl975_1; have HR975_2 := Aside0.mk hi975_2; have HC975_2 := Aside0.mk hl975_2; clear hi975_2 hl975_2; replace p975 := eq_true p975; replace q975 := eq_true q975
                                       obtain ⟨Ao131, co131, eo131⟩ := Kd.R_slice HO972.out
                                       (first | subst eo131 | (injection eo131 with f1_ f2_ f3_; have f4_ := f1_.symm; have f5_ := f3_.symm; clear f1_ f2_ f3_; subst f4_; subst f5_))
                                       refine start_ (n := 68) (S := fun w' => w'.cell? ⟨gb941, 0, none⟩ = some (.string t933) ∧ w'.cell? ⟨gb941, 1, none⟩ = some (.slice Ao87 t934.length co87) ∧ w'.cell? ⟨gb941, 2, none⟩ = some (.slice Ao88 t937.length co88) ∧ w'.cell? ⟨gb959, 0, none⟩ = some (.string t951) ∧ w'.cell? ⟨gb959, 1, none⟩ = some (.slice Ao102 t952.length co102) ∧ w'.cell? ⟨gb959, 2, none⟩ = some (.slice Ao103 t955.length co103) ∧ w'.cell? ⟨gb950, 0, none⟩ = some (.string t942) ∧ w'.cell? ⟨gb950, 1, none⟩ = some (.slice Ao94 t943.length co94) ∧ w'.cell? ⟨gb950, 2, none⟩ = some (.slice Ao95 t946.length co95) ∧ w'.cell? ad973 = some (.string ((rd_T64 t966 0).f0)) ∧ w'.cell? ⟨ad973.block, ad973.off + 1, none⟩ = some (.slice A973_1 ((rd_T64 t966 0).f1).length c973_1) ∧ w'.cell? ⟨ad973.block, ad973.off + 2, none⟩ = some (.slice A973_2 ((rd_T64 t966 0).f2).length c973_2) ∧ w'.cell? ⟨ad973.block, ad973.off + 3, none⟩ = some (.string ((rd_T64 t966 1).f0)) ∧ w'.cell? ⟨ad973.block, ad973.off + 3 + 1, none⟩ = some (.slice A974_1 ((rd_T64 t966 1).f1).length c974_1) ∧ w'.cell? ⟨ad973.block, ad973.off + 3 + 2, none⟩ = some (.slice A974_2 ((rd_T64 t966 1).f2).length c974_2) ∧ w'.cell? ⟨ad973.block, ad973.off + 6, none⟩ = some (.string ((rd_T64 t966 2).f0)) ∧ w'.cell? ⟨ad973.block, ad973.off + 6 + 1, none⟩ = some (.slice A975_1 ((rd_T64 t966 2).f1).length c975_1) ∧ w'.cell? ⟨ad973.block, ad973.off + 6 + 2, none⟩ = some (.slice A975_2 ((rd_T64 t966 2).f2).length c975_2)) (ds := []) #[false, false, false, false, false, false, false, false, false, false, false, false, false, false, false, false, false, false, false, false, false, false, false, false, false, false, false, false, false, false, false, false, false, false, false, false, false, false, false, false, false, false, false, false, false, false, false, false, false, false, false, false, false, false, false, false, false, false, false, false, false, false, false, false, false, false, false, false] (by kernel_rfl) rfl rfl ⟨(blk_cell BK941.out 0).trans rfl, (blk_cell BK941.out 1).trans rfl, (blk_cell BK941.out 2).trans rfl, (blk_cell BK959.out 0).trans rfl, (blk_cell BK959.out 1).trans rfl, (blk_cell BK959.out 2).trans rfl, (blk_cell BK950.out 0).trans rfl, (blk_cell BK950.out 1).trans rfl, (blk_cell BK950.out 2).trans rfl, hx973_0, hx973_1, hx973_2, hx974_0, hx974_1, hx974_2, hx975_0, hx975_1, hx975_2⟩ (fun hHeld => ?_); refine with_tabW foghornlaw20_MendOver.tab40 foghornlaw20_MendOver.bits40 (fun HT_ HW_ => ?_)
                                       generalize w112.drew = w129 at HO_14 HO_18 HO_19 HO936 HO939 HO945 HO948 HO954 HO957 HO962 HO965 HO970 HO972 BK941 BK950 BK959 HB HL973_1 HL973_2 HL974_1 HL974_2 HL975_1 HL975_2 HR973_1 HR973_2 HR974_1 HR974_2 HR975_1 HR975_2 hx973_0 hx973_1 hx973_2 hx974_0 hx974_1 hx974_2 hx975_0 hx975_1 hx975_2 hHeld ⊢
                                       refine pure_ (i := 0) (N := some 206) (v := ?_) (a' := ?_) Dn11_ rfl rfl (any_of HT_.out (by kernel_rfl)) (fun _ _ _ h => h) (Or.inl ⟨by rfl, ?_⟩) ?_ ?_; rotate_left; (focus (intro w'; go_simp; with_reducible rfl)); rotate_left; (focus (simp only [Act.put, List.setIfInBounds_toArray, List.set_cons_zero, List.set_cons_succ, i64_w, i32_w]; rfl))
                                       refine pure_ (i := 1) (N := some 207) (v := ?_) (a' := ?_) Dn12_ rfl rfl (any_of HT_.out (by kernel_rfl)) (fun _ _ _ h => h) (Or.inl ⟨by rfl, ?_⟩) ?_ ?_; rotate_left; (focus (intro w'; go_simp; with_reducible rfl)); rotate_left; (focus (simp only [Act.put, List.setIfInBounds_toArray, List.set_cons_zero, List.set_cons_succ, i64_w, i32_w]; rfl))
                                       refine pure_ (i := 2) (N := some 208) (v := ?_) (a' := ?_) Dn13_ rfl rfl (any_of HT_.out (by kernel_rfl)) (fun _ _ _ h => h) (Or.inl ⟨by rfl, ?_⟩) ?_ ?_; rotate_left; (focus (intro w'; go_simp; with_reducible rfl)); rotate_left; (focus (simp only [Act.put, List.setIfInBounds_toArray, List.set_cons_zero, List.set_cons_succ, i64_w, i32_w]; rfl))
                                       refine pure_ (i := 3) (N := some 209) (v := ?_) (a' := ?_) Dn14_ rfl rfl (any_of HT_.out (by kernel_rfl)) (fun _ _ _ h => h) (Or.inl ⟨by rfl, ?_⟩) ?_ ?_; rotate_left; (focus (intro w'; go_simp; with_reducible rfl)); rotate_left; (focus (simp only [Act.put, List.setIfInBounds_toArray, List.set_cons_zero, List.set_cons_succ, i64_w, i32_w]; rfl))
                                       refine pure_ (i := 4) (N := some 210) (v := ?_) (a' := ?_) Dn15_ rfl rfl (any_of HT_.out (by kernel_rfl)) (fun _ _ _ h => h) (Or.inl ⟨by rfl, ?_⟩) ?_ ?_; rotate_left; (focus (intro w'; go_simp; with_reducible rfl)); rotate_left; (focus (simp only [Act.put, List.setIfInBounds_toArray, List.set_cons_zero, List.set_cons_succ, i64_w, i32_w]; rfl))
                                       refine pure_ (i := 5) (N := some 211) (v := ?_) (a' := ?_) Dn16_ rfl rfl (any_of HT_.out (by kernel_rfl)) (fun _ _ _ h => h) (Or.inl ⟨by rfl, ?_⟩) ?_ ?_; rotate_left; (focus (intro w'; go_simp; with_reducible rfl)); rotate_left; (focus (simp only [Act.put, List.setIfInBounds_toArray, List.set_cons_zero, List.set_cons_succ, i64_w, i32_w]; rfl))
                                       refine pure_ (i := 6) (N := some 212) (v := ?_) (a' := ?_) Dn17_ rfl rfl (any_of HT_.out (by kernel_rfl)) (fun _ _ _ h => h) (Or.inl ⟨by rfl, ?_⟩) ?_ ?_; rotate_left; (focus (intro w'; go_simp; with_reducible rfl)); rotate_left; (focus (simp only [Act.put, List.setIfInBounds_toArray, List.set_cons_zero, List.set_cons_succ, i64_w, i32_w]; rfl))
                                       refine pure_ (i := 7) (N := some 213) (v := ?_) (a' := ?_) Dn18_ rfl rfl (any_of HT_.out (by kernel_rfl)) (fun _ _ _ h => h) (Or.inl ⟨by rfl, ?_⟩) ?_ ?_; rotate_left; (focus (intro w'; go_simp; with_reducible rfl)); rotate_left; (focus (simp only [Act.put, List.setIfInBounds_toArray, List.set_cons_zero, List.set_cons_succ, i64_w, i32_w]; rfl))
                                       refine pure_ (i := 8) (N := some 214) (v := ?_) (a' := ?_) Dn19_ rfl rfl (any_of HT_.out (by kernel_rfl)) (fun _ _ _ h => h) (Or.inl ⟨by rfl, ?_⟩) ?_ ?_; rotate_left; (focus (intro w'; go_simp; with_reducible rfl)); rotate_left; (focus (simp only [Act.put, List.setIfInBounds_toArray, List.set_cons_zero, List.set_cons_succ, i64_w, i32_w]; rfl))
                                       refine pure_ (i := 9) (N := some 215) (v := ?_) (a' := ?_) Dn20_ rfl rfl (any_of HT_.out (by kernel_rfl)) (fun _ _ _ h => h) (Or.inl ⟨by rfl, ?_⟩) ?_ ?_; rotate_left; (focus (intro w'; go_simp; with_reducible rfl)); rotate_left; (focus (simp only [Act.put, List.setIfInBounds_toArray, List.set_cons_zero, List.set_cons_succ, i64_w, i32_w]; rfl))
                                       refine pure_ (i := 10) (N := some 216) (v := ?_) (a' := ?_) Dn21_ rfl rfl (any_of HT_.out (by kernel_rfl)) (fun _ _ _ h => h) (Or.inl ⟨by rfl, ?_⟩) ?_ ?_; rotate_left; (focus (intro w'; go_simp; with_reducible rfl)); rotate_left; (focus (simp only [Act.put, List.setIfInBounds_toArray, List.set_cons_zero, List.set_cons_succ, i64_w, i32_w]; rfl))
                                       refine pure_ (i := 11) (N := some 217) (v := ?_) (a' := ?_) Dn22_ rfl rfl (any_of HT_.out (by kernel_rfl)) (fun _ _ _ h => h) (Or.inl ⟨by rfl, ?_⟩) ?_ ?_; rotate_left; (focus (intro w'; go_simp; with_reducible rfl)); rotate_left; (focus (simp only [Act.put, List.setIfInBounds_toArray, List.set_cons_zero, List.set_cons_succ, i64_w, i32_w]; rfl))
                                       refine pure_ (i := 12) (N := some 218) (v := ?_) (a' := ?_) Dn23_ rfl rfl (any_of HT_.out (by kernel_rfl)) (fun _ _ _ h => h) (Or.inl ⟨by rfl, ?_⟩) ?_ ?_; rotate_left; (focus (intro w'; go_simp; with_reducible rfl)); rotate_left; (focus (simp only [Act.put, List.setIfInBounds_toArray, List.set_cons_zero, List.set_cons_succ, i64_w, i32_w]; rfl))
                                       refine pure_ (i := 13) (N := some 219) (v := ?_) (a' := ?_) Dn24_ rfl rfl (any_of HT_.out (by kernel_rfl)) (fun _ _ _ h => h) (Or.inl ⟨by rfl, ?_⟩) ?_ ?_; rotate_left; (focus (intro w'; go_simp; with_reducible rfl)); rotate_left; (focus (simp only [Act.put, List.setIfInBounds_toArray, List.set_cons_zero, List.set_cons_succ, i64_w, i32_w]; rfl))
                                       refine pure_ (i := 14) (N := some 220) (v := ?_) (a' := ?_) Dn25_ rfl rfl (any_of HT_.out (by kernel_rfl)) (fun _ _ _ h => h) (Or.inl ⟨by rfl, ?_⟩) ?_ ?_; rotate_left; (focus (intro w'; go_simp; with_reducible rfl)); rotate_left; (focus (simp only [Act.put, List.setIfInBounds_toArray, List.set_cons_zero, List.set_cons_succ, i64_w, i32_w]; rfl))
                                       refine pure_ (i := 15) (N := some 221) (v := ?_) (a' := ?_) Dn26_ rfl rfl (any_of HT_.out (by kernel_rfl)) (fun _ _ _ h => h) (Or.inl ⟨by rfl, ?_⟩) ?_ ?_; rotate_left; (focus (intro w'; go_simp; with_reducible rfl)); rotate_left; (focus (simp only [Act.put, List.setIfInBounds_toArray, List.set_cons_zero, List.set_cons_succ, i64_w, i32_w]; rfl))
                                       refine pure_ (i := 16) (N := some 222) (v := ?_) (a' := ?_) Dn27_ rfl rfl (any_of HT_.out (by kernel_rfl)) (fun _ _ _ h => h) (Or.inl ⟨by rfl, ?_⟩) ?_ ?_; rotate_left; (focus (intro w'; go_simp; with_reducible rfl)); rotate_left; (focus (simp only [Act.put, List.setIfInBounds_toArray, List.set_cons_zero, List.set_cons_succ, i64_w, i32_w]; rfl))
                                       refine pure_ (i := 17) (N := some 223) (v := ?_) (a' := ?_) Dn28_ rfl rfl (any_of HT_.out (by kernel_rfl)) (fun _ _ _ h => h) (Or.inl ⟨by rfl, ?_⟩) ?_ ?_; rotate_left; (focus (intro w'; go_simp; with_reducible rfl)); rotate_left; (focus (simp only [Act.put, List.setIfInBounds_toArray, List.set_cons_zero, List.set_cons_succ, i64_w, i32_w]; rfl))
                                       refine pure_ (i := 18) (N := some 224) (v := ?_) (a' := ?_) Dn29_ rfl rfl (any_of HT_.out (by kernel_rfl)) (fun _ _ _ h => h) (Or.inl ⟨by rfl, ?_⟩) ?_ ?_; rotate_left; (focus (intro w'; go_simp; with_reducible rfl)); rotate_left; (focus (simp only [Act.put, List.setIfInBounds_toArray, List.set_cons_zero, List.set_cons_succ, i64_w, i32_w]; rfl))
                                       refine pure_ (i := 20) (N := some 226) (v := ?_) (a' := ?_) Dn30_ rfl rfl (any_of HT_.out (by kernel_rfl)) (fun _ _ _ h => h) (Or.inl ⟨by rfl, ?_⟩) ?_ ?_; rotate_left; (focus (intro w'; go_simp; with_reducible rfl)); rotate_left; (focus (simp only [Act.put, List.setIfInBounds_toArray, List.set_cons_zero, List.set_cons_succ, i64_w, i32_w]; rfl))
                                       refine take_ (i := 19) (N := some 225) (v := ?_) (a' := ?_) Dn31_ rfl rfl (take_ofW HT_.out HW_.out (by kernel_rfl)) (fun _ _ _ h => h) (Or.inl ⟨by rfl, ?_⟩) hHeld ?_ ?_
                                       rotate_left
                                       ·rintro w' ⟨s0, s1, s2, s3, s4, s5, s6, s7, s8, s9, s10, s11, s12, s13, s14, s15, s16, s17⟩
                                        go_simp
                                        with_reducible rfl
                                       rotate_left
                                       ·simp only [Act.put, List.setIfInBounds_toArray, List.set_cons_zero, List.set_cons_succ, i64_w, i32_w]
                                        rfl
                                       refine take_ (i := 21) (N := some 227) (v := ?_) (a' := ?_) Dn32_ rfl rfl (take_ofW HT_.out HW_.out (by kernel_rfl)) (fun _ _ _ h => h) (Or.inl ⟨by rfl, ?_⟩) hHeld ?_ ?_
                                       rotate_left
                                       ·rintro w' ⟨s0, s1, s2, s3, s4, s5, s6, s7, s8, s9, s10, s11, s12, s13, s14, s15, s16, s17⟩
                                        go_simp
                                        with_reducible rfl
                                       rotate_left
                                       ·simp only [Act.put, List.setIfInBounds_toArray, List.set_cons_zero, List.set_cons_succ, i64_w, i32_w]
                                        rfl
                                       refine pure_ (i := 22) (N := some 228) (v := ?_) (a' := ?_) Dn33_ rfl rfl (any_of HT_.out (by kernel_rfl)) (fun _ _ _ h => h) (Or.inl ⟨by rfl, ?_⟩) ?_ ?_; rotate_left; (focus (intro w'; go_simp; with_reducible rfl)); rotate_left; (focus (simp only [Act.put, List.setIfInBounds_toArray, List.set_cons_zero, List.set_cons_succ, i64_w, i32_w]; rfl))
                                       refine pure_ (i := 23) (N := some 229) (v := ?_) (a' := ?_) Dn34_ rfl rfl (any_of HT_.out (by kernel_rfl)) (fun _ _ _ h => h) (Or.inl ⟨by rfl, ?_⟩) ?_ ?_; rotate_left; (focus (intro w'; go_simp; with_reducible rfl)); rotate_left; (focus (simp only [Act.put, List.setIfInBounds_toArray, List.set_cons_zero, List.set_cons_succ, i64_w, i32_w]; rfl))
                                       refine pure_ (i := 24) (N := some 230) (v := ?_) (a' := ?_) Dn35_ rfl rfl (any_of HT_.out (by kernel_rfl)) (fun _ _ _ h => h) (Or.inl ⟨by rfl, ?_⟩) ?_ ?_; rotate_left; (focus (intro w'; go_simp; with_reducible rfl)); rotate_left; (focus (simp only [Act.put, List.setIfInBounds_toArray, List.set_cons_zero, List.set_cons_succ, i64_w, i32_w]; rfl))
                                       refine pure_ (i := 25) (N := some 231) (v := ?_) (a' := ?_) Dn36_ rfl rfl (any_of HT_.out (by kernel_rfl)) (fun _ _ _ h => h) (Or.inl ⟨by rfl, ?_⟩) ?_ ?_; rotate_left; (focus (intro w'; go_simp; with_reducible rfl)); rotate_left; (focus (simp only [Act.put, List.setIfInBounds_toArray, List.set_cons_zero, List.set_cons_succ, i64_w, i32_w]; rfl))
                                       refine pure_ (i := 26) (N := some 232) (v := ?_) (a' := ?_) Dn37_ rfl rfl (any_of HT_.out (by kernel_rfl)) (fun _ _ _ h => h) (Or.inl ⟨by rfl, ?_⟩) ?_ ?_; rotate_left; (focus (intro w'; go_simp; with_reducible rfl)); rotate_left; (focus (simp only [Act.put, List.setIfInBounds_toArray, List.set_cons_zero, List.set_cons_succ, i64_w, i32_w]; rfl))
                                       refine pure_ (i := 27) (N := some 233) (v := ?_) (a' := ?_) Dn38_ rfl rfl (any_of HT_.out (by kernel_rfl)) (fun _ _ _ h => h) (Or.inl ⟨by rfl, ?_⟩) ?_ ?_; rotate_left; (focus (intro w'; go_simp; with_reducible rfl)); rotate_left; (focus (simp only [Act.put, List.setIfInBounds_toArray, List.set_cons_zero, List.set_cons_succ, i64_w, i32_w]; rfl))
                                       refine pure_ (i := 29) (N := some 235) (v := ?_) (a' := ?_) Dn39_ rfl rfl (any_of HT_.out (by kernel_rfl)) (fun _ _ _ h => h) (Or.inl ⟨by rfl, ?_⟩) ?_ ?_; rotate_left; (focus (intro w'; go_simp; with_reducible rfl)); rotate_left; (focus (simp only [Act.put, List.setIfInBounds_toArray, List.set_cons_zero, List.set_cons_succ, i64_w, i32_w]; rfl))
                                       refine take_ (i := 28) (N := some 234) (v := ?_) (a' := ?_) Dn40_ rfl rfl (take_ofW HT_.out HW_.out (by kernel_rfl)) (fun _ _ _ h => h) (Or.inl ⟨by rfl, ?_⟩) hHeld ?_ ?_
                                       rotate_left
                                       ·rintro w' ⟨s0, s1, s2, s3, s4, s5, s6, s7, s8, s9, s10, s11, s12, s13, s14, s15, s16, s17⟩
                                        go_simp
                                        with_reducible rfl
                                       rotate_left
                                       ·simp only [Act.put, List.setIfInBounds_toArray, List.set_cons_zero, List.set_cons_succ, i64_w, i32_w]
                                        rfl
                                       refine take_ (i := 30) (N := some 236) (v := ?_) (a' := ?_) Dn41_ rfl rfl (take_ofW HT_.out HW_.out (by kernel_rfl)) (fun _ _ _ h => h) (Or.inl ⟨by rfl, ?_⟩) hHeld ?_ ?_
                                       rotate_left
                                       ·rintro w' ⟨s0, s1, s2, s3, s4, s5, s6, s7, s8, s9, s10, s11, s12, s13, s14, s15, s16, s17⟩
                                        go_simp
                                        with_reducible rfl
                                       rotate_left
                                       ·simp only [Act.put, List.setIfInBounds_toArray, List.set_cons_zero, List.set_cons_succ, i64_w, i32_w]
                                        rfl
                                       refine pure_ (i := 31) (N := some 237) (v := ?_) (a' := ?_) Dn42_ rfl rfl (any_of HT_.out (by kernel_rfl)) (fun _ _ _ h => h) (Or.inl ⟨by rfl, ?_⟩) ?_ ?_; rotate_left; (focus (intro w'; go_simp; with_reducible rfl)); rotate_left; (focus (simp only [Act.put, List.setIfInBounds_toArray, List.set_cons_zero, List.set_cons_succ, i64_w, i32_w]; rfl))
                                       refine pure_ (i := 32) (N := some 238) (v := ?_) (a' := ?_) Dn43_ rfl rfl (any_of HT_.out (by kernel_rfl)) (fun _ _ _ h => h) (Or.inl ⟨by rfl, ?_⟩) ?_ ?_; rotate_left; (focus (intro w'; go_simp; with_reducible rfl)); rotate_left; (focus (simp only [Act.put, List.setIfInBounds_toArray, List.set_cons_zero, List.set_cons_succ, i64_w, i32_w]; rfl))
                                       refine pure_ (i := 33) (N := some 239) (v := ?_) (a' := ?_) Dn44_ rfl rfl (any_of HT_.out (by kernel_rfl)) (fun _ _ _ h => h) (Or.inl ⟨by rfl, ?_⟩) ?_ ?_; rotate_left; (focus (intro w'; go_simp; with_reducible rfl)); rotate_left; (focus (simp only [Act.put, List.setIfInBounds_toArray, List.set_cons_zero, List.set_cons_succ, i64_w, i32_w]; rfl))
                                       refine pure_ (i := 34) (N := some 240) (v := ?_) (a' := ?_) Dn45_ rfl rfl (any_of HT_.out (by kernel_rfl)) (fun _ _ _ h => h) (Or.inl ⟨by rfl, ?_⟩) ?_ ?_; rotate_left; (focus (intro w'; go_simp; with_reducible rfl)); rotate_left; (focus (simp only [Act.put, List.setIfInBounds_toArray, List.set_cons_zero, List.set_cons_succ, i64_w, i32_w]; rfl))
                                       refine pure_ (i := 35) (N := some 241) (v := ?_) (a' := ?_) Dn46_ rfl rfl (any_of HT_.out (by kernel_rfl)) (fun _ _ _ h => h) (Or.inl ⟨by rfl, ?_⟩) ?_ ?_; rotate_left; (focus (intro w'; go_simp; with_reducible rfl)); rotate_left; (focus (simp only [Act.put, List.setIfInBounds_toArray, List.set_cons_zero, List.set_cons_succ, i64_w, i32_w]; rfl))
                                       refine pure_ (i := 36) (N := some 242) (v := ?_) (a' := ?_) Dn47_ rfl rfl (any_of HT_.out (by kernel_rfl)) (fun _ _ _ h => h) (Or.inl ⟨by rfl, ?_⟩) ?_ ?_; rotate_left; (focus (intro w'; go_simp; with_reducible rfl)); rotate_left; (focus (simp only [Act.put, List.setIfInBounds_toArray, List.set_cons_zero, List.set_cons_succ, i64_w, i32_w]; rfl))
                                       refine pure_ (i := 38) (N := some 244) (v := ?_) (a' := ?_) Dn48_ rfl rfl (any_of HT_.out (by kernel_rfl)) (fun _ _ _ h => h) (Or.inl ⟨by rfl, ?_⟩) ?_ ?_; rotate_left; (focus (intro w'; go_simp; with_reducible rfl)); rotate_left; (focus (simp only [Act.put, List.setIfInBounds_toArray, List.set_cons_zero, List.set_cons_succ, i64_w, i32_w]; rfl))
                                       refine take_ (i := 37) (N := some 243) (v := ?_) (a' := ?_) Dn49_ rfl rfl (take_ofW HT_.out HW_.out (by kernel_rfl)) (fun _ _ _ h => h) (Or.inl ⟨by rfl, ?_⟩) hHeld ?_ ?_
                                       rotate_left
                                       ·rintro w' ⟨s0, s1, s2, s3, s4, s5, s6, s7, s8, s9, s10, s11, s12, s13, s14, s15, s16, s17⟩
                                        go_simp
                                        with_reducible rfl
                                       rotate_left
                                       ·simp only [Act.put, List.setIfInBounds_toArray, List.set_cons_zero, List.set_cons_succ, i64_w, i32_w]
                                        rfl
                                       refine pure_ (i := 39) (N := some 245) (v := ?_) (a' := ?_) Dn50_ rfl rfl (any_of HT_.out (by kernel_rfl)) (fun _ _ _ h => h) (Or.inl ⟨by rfl, ?_⟩) ?_ ?_; rotate_left; (focus (intro w'; go_simp; with_reducible rfl)); rotate_left; (focus (simp only [Act.put, List.setIfInBounds_toArray, List.set_cons_zero, List.set_cons_succ, i64_w, i32_w]; rfl))
                                       refine pure_ (i := 40) (N := some 246) (v := ?_) (a' := ?_) Dn51_ rfl rfl (any_of HT_.out (by kernel_rfl)) (fun _ _ _ h => h) (Or.inl ⟨by rfl, ?_⟩) ?_ ?_; rotate_left; (focus (intro w'; go_simp; with_reducible rfl)); rotate_left; (focus (simp only [Act.put, List.setIfInBounds_toArray, List.set_cons_zero, List.set_cons_succ, i64_w, i32_w]; rfl))
                                       refine pure_ (i := 41) (N := some 247) (v := ?_) (a' := ?_) Dn52_ rfl rfl (any_of HT_.out (by kernel_rfl)) (fun _ _ _ h => h) (Or.inl ⟨by rfl, ?_⟩) ?_ ?_; rotate_left; (focus (intro w'; go_simp; with_reducible rfl)); rotate_left; (focus (simp only [Act.put, List.setIfInBounds_toArray, List.set_cons_zero, List.set_cons_succ, i64_w, i32_w]; rfl))
                                       refine pure_ (i := 42) (N := some 248) (v := ?_) (a' := ?_) Dn53_ rfl rfl (any_of HT_.out (by kernel_rfl)) (fun _ _ _ h => h) (Or.inl ⟨by rfl, ?_⟩) ?_ ?_; rotate_left; (focus (intro w'; go_simp; with_reducible rfl)); rotate_left; (focus (simp only [Act.put, List.setIfInBounds_toArray, List.set_cons_zero, List.set_cons_succ, i64_w, i32_w]; rfl))
                                       refine pure_ (i := 43) (N := some 249) (v := ?_) (a' := ?_) Dn54_ rfl rfl (any_of HT_.out (by kernel_rfl)) (fun _ _ _ h => h) (Or.inl ⟨by rfl, ?_⟩) ?_ ?_; rotate_left; (focus (intro w'; go_simp; with_reducible rfl)); rotate_left; (focus (simp only [Act.put, List.setIfInBounds_toArray, List.set_cons_zero, List.set_cons_succ, i64_w, i32_w]; rfl))
                                       refine pure_ (i := 44) (N := some 250) (v := ?_) (a' := ?_) Dn55_ rfl rfl (any_of HT_.out (by kernel_rfl)) (fun _ _ _ h => h) (Or.inl ⟨by rfl, ?_⟩) ?_ ?_; rotate_left; (focus (intro w'; go_simp; with_reducible rfl)); rotate_left; (focus (simp only [Act.put, List.setIfInBounds_toArray, List.set_cons_zero, List.set_cons_succ, i64_w, i32_w]; rfl))
                                       refine pure_ (i := 46) (N := some 252) (v := ?_) (a' := ?_) Dn56_ rfl rfl (any_of HT_.out (by kernel_rfl)) (fun _ _ _ h => h) (Or.inl ⟨by rfl, ?_⟩) ?_ ?_; rotate_left; (focus (intro w'; go_simp; with_reducible rfl)); rotate_left; (focus (simp only [Act.put, List.setIfInBounds_toArray, List.set_cons_zero, List.set_cons_succ, i64_w, i32_w]; rfl))
                                       refine take_ (i := 45) (N := some 251) (v := ?_) (a' := ?_) Dn57_ rfl rfl (take_ofW HT_.out HW_.out (by kernel_rfl)) (fun _ _ _ h => h) (Or.inl ⟨by rfl, ?_⟩) hHeld ?_ ?_
                                       rotate_left
                                       ·rintro w' ⟨s0, s1, s2, s3, s4, s5, s6, s7, s8, s9, s10, s11, s12, s13, s14, s15, s16, s17⟩
                                        go_simp
                                        with_reducible rfl
                                       rotate_left
                                       ·simp only [Act.put, List.setIfInBounds_toArray, List.set_cons_zero, List.set_cons_succ, i64_w, i32_w]
                                        rfl
                                       refine take_ (i := 47) (N := some 253) (v := ?_) (a' := ?_) Dn58_ rfl rfl (take_ofW HT_.out HW_.out (by kernel_rfl)) (fun _ _ _ h => h) (Or.inl ⟨by rfl, ?_⟩) hHeld ?_ ?_
                                       rotate_left
                                       ·rintro w' ⟨s0, s1, s2, s3, s4, s5, s6, s7, s8, s9, s10, s11, s12, s13, s14, s15, s16, s17⟩
                                        go_simp
                                        with_reducible rfl
                                       rotate_left
                                       ·simp only [Act.put, List.setIfInBounds_toArray, List.set_cons_zero, List.set_cons_succ, i64_w, i32_w]
                                        rfl
                                       refine pure_ (i := 48) (N := some 254) (v := ?_) (a' := ?_) Dn59_ rfl rfl (any_of HT_.out (by kernel_rfl)) (fun _ _ _ h => h) (Or.inl ⟨by rfl, ?_⟩) ?_ ?_; rotate_left; (focus (intro w'; go_simp; with_reducible rfl)); rotate_left; (focus (simp only [Act.put, List.setIfInBounds_toArray, List.set_cons_zero, List.set_cons_succ, i64_w, i32_w]; rfl))
                                       refine pure_ (i := 49) (N := some 255) (v := ?_) (a' := ?_) Dn60_ rfl rfl (any_of HT_.out (by kernel_rfl)) (fun _ _ _ h => h) (Or.inl ⟨by rfl, ?_⟩) ?_ ?_; rotate_left; (focus (intro w'; go_simp; with_reducible rfl)); rotate_left; (focus (simp only [Act.put, List.setIfInBounds_toArray, List.set_cons_zero, List.set_cons_succ, i64_w, i32_w]; rfl))
                                       refine pure_ (i := 50) (N := some 256) (v := ?_) (a' := ?_) Dn61_ rfl rfl (any_of HT_.out (by kernel_rfl)) (fun _ _ _ h => h) (Or.inl ⟨by rfl, ?_⟩) ?_ ?_; rotate_left; (focus (intro w'; go_simp; with_reducible rfl)); rotate_left; (focus (simp only [Act.put, List.setIfInBounds_toArray, List.set_cons_zero, List.set_cons_succ, i64_w, i32_w]; rfl))
                                       refine pure_ (i := 51) (N := some 257) (v := ?_) (a' := ?_) Dn62_ rfl rfl (any_of HT_.out (by kernel_rfl)) (fun _ _ _ h => h) (Or.inl ⟨by rfl, ?_⟩) ?_ ?_; rotate_left; (focus (intro w'; go_simp; with_reducible rfl)); rotate_left; (focus (simp only [Act.put, List.setIfInBounds_toArray, List.set_cons_zero, List.set_cons_succ, i64_w, i32_w]; rfl))
                                       refine pure_ (i := 52) (N := some 258) (v := ?_) (a' := ?_) Dn63_ rfl rfl (any_of HT_.out (by kernel_rfl)) (fun _ _ _ h => h) (Or.inl ⟨by rfl, ?_⟩) ?_ ?_; rotate_left; (focus (intro w'; go_simp; with_reducible rfl)); rotate_left; (focus (simp only [Act.put, List.setIfInBounds_toArray, List.set_cons_zero, List.set_cons_succ, i64_w, i32_w]; rfl))
                                       refine pure_ (i := 53) (N := some 259) (v := ?_) (a' := ?_) Dn64_ rfl rfl (any_of HT_.out (by kernel_rfl)) (fun _ _ _ h => h) (Or.inl ⟨by rfl, ?_⟩) ?_ ?_; rotate_left; (focus (intro w'; go_simp; with_reducible rfl)); rotate_left; (focus (simp only [Act.put, List.setIfInBounds_toArray, List.set_cons_zero, List.set_cons_succ, i64_w, i32_w]; rfl))
                                       refine pure_ (i := 54) (N := some 260) (v := ?_) (a' := ?_) Dn65_ rfl rfl (any_of HT_.out (by kernel_rfl)) (fun _ _ _ h => h) (Or.inl ⟨by rfl, ?_⟩) ?_ ?_; rotate_left; (focus (intro w'; go_simp; with_reducible rfl)); rotate_left; (focus (simp only [Act.put, List.setIfInBounds_toArray, List.set_cons_zero, List.set_cons_succ, i64_w, i32_w]; rfl))
                                       refine pure_ (i := 55) (N := some 261) (v := ?_) (a' := ?_) Dn66_ rfl rfl (any_of HT_.out (by kernel_rfl)) (fun _ _ _ h => h) (Or.inl ⟨by rfl, ?_⟩) ?_ ?_; rotate_left; (focus (intro w'; go_simp; with_reducible rfl)); rotate_left; (focus (simp only [Act.put, List.setIfInBounds_toArray, List.set_cons_zero, List.set_cons_succ, i64_w, i32_w]; rfl))
                                       refine pure_ (i := 56) (N := some 262) (v := ?_) (a' := ?_) Dn67_ rfl rfl (any_of HT_.out (by kernel_rfl)) (fun _ _ _ h => h) (Or.inl ⟨by rfl, ?_⟩) ?_ ?_; rotate_left; (focus (intro w'; go_simp; with_reducible rfl)); rotate_left; (focus (simp only [Act.put, List.setIfInBounds_toArray, List.set_cons_zero, List.set_cons_succ, i64_w, i32_w]; rfl))
                                       refine pure_ (i := 57) (N := some 263) (v := ?_) (a' := ?_) Dn68_ rfl rfl (any_of HT_.out (by kernel_rfl)) (fun _ _ _ h => h) (Or.inl ⟨by rfl, ?_⟩) ?_ ?_; rotate_left; (focus (intro w'; go_simp; with_reducible rfl)); rotate_left; (focus (simp only [Act.put, List.setIfInBounds_toArray, List.set_cons_zero, List.set_cons_succ, i64_w, i32_w]; rfl))
                                       refine pure_ (i := 58) (N := some 264) (v := ?_) (a' := ?_) Dn69_ rfl rfl (any_of HT_.out (by kernel_rfl)) (fun _ _ _ h => h) (Or.inl ⟨by rfl, ?_⟩) ?_ ?_; rotate_left; (focus (intro w'; go_simp; with_reducible rfl)); rotate_left; (focus (simp only [Act.put, List.setIfInBounds_toArray, List.set_cons_zero, List.set_cons_succ, i64_w, i32_w]; rfl))
                                       refine pure_ (i := 59) (N := some 265) (v := ?_) (a' := ?_) Dn70_ rfl rfl (any_of HT_.out (by kernel_rfl)) (fun _ _ _ h => h) (Or.inl ⟨by rfl, ?_⟩) ?_ ?_; rotate_left; (focus (intro w'; go_simp; with_reducible rfl)); rotate_left; (focus (simp only [Act.put, List.setIfInBounds_toArray, List.set_cons_zero, List.set_cons_succ, i64_w, i32_w]; rfl))
                                       refine pure_ (i := 60) (N := some 266) (v := ?_) (a' := ?_) Dn71_ rfl rfl (any_of HT_.out (by kernel_rfl)) (fun _ _ _ h => h) (Or.inl ⟨by rfl, ?_⟩) ?_ ?_; rotate_left; (focus (intro w'; go_simp; with_reducible rfl)); rotate_left; (focus (simp only [Act.put, List.setIfInBounds_toArray, List.set_cons_zero, List.set_cons_succ, i64_w, i32_w]; rfl))
                                       refine pure_ (i := 61) (N := some 267) (v := ?_) (a' := ?_) Dn72_ rfl rfl (any_of HT_.out (by kernel_rfl)) (fun _ _ _ h => h) (Or.inl ⟨by rfl, ?_⟩) ?_ ?_; rotate_left; (focus (intro w'; go_simp; with_reducible rfl)); rotate_left; (focus (simp only [Act.put, List.setIfInBounds_toArray, List.set_cons_zero, List.set_cons_succ, i64_w, i32_w]; rfl))
                                       refine pure_ (i := 62) (N := some 268) (v := ?_) (a' := ?_) Dn73_ rfl rfl (any_of HT_.out (by kernel_rfl)) (fun _ _ _ h => h) (Or.inl ⟨by rfl, ?_⟩) ?_ ?_; rotate_left; (focus (intro w'; go_simp; with_reducible rfl)); rotate_left; (focus (simp only [Act.put, List.setIfInBounds_toArray, List.set_cons_zero, List.set_cons_succ, i64_w, i32_w]; rfl))
                                       refine pure_ (i := 63) (N := some 269) (v := undef) (a' := ?_) Dn74_ rfl rfl (any_of HT_.out (by kernel_rfl)) (fun _ _ _ h => h) (Or.inr ⟨by rfl, rfl⟩) ?_ ?_
                                       rotate_left
                                       ·simp only [Act.put, List.setIfInBounds_toArray, List.set_cons_zero, List.set_cons_succ, i64_w, i32_w]
                                        rfl
                                       refine pure_ (i := 64) (N := some 270) (v := undef) (a' := ?_) Dn75_ rfl rfl (any_of HT_.out (by kernel_rfl)) (fun _ _ _ h => h) (Or.inr ⟨by rfl, rfl⟩) ?_ ?_
                                       rotate_left
                                       ·simp only [Act.put, List.setIfInBounds_toArray, List.set_cons_zero, List.set_cons_succ, i64_w, i32_w]
                                        rfl
                                       refine pure_ (i := 65) (N := some 271) (v := undef) (a' := ?_) Dn76_ rfl rfl (any_of HT_.out (by kernel_rfl)) (fun _ _ _ h => h) (Or.inr ⟨by rfl, rfl⟩) ?_ ?_
                                       rotate_left
                                       ·simp only [Act.put, List.setIfInBounds_toArray, List.set_cons_zero, List.set_cons_succ, i64_w, i32_w]
                                        rfl
                                       refine pure_ (i := 66) (N := some 272) (v := ?_) (a' := ?_) Dn77_ rfl rfl (any_of HT_.out (by kernel_rfl)) (fun _ _ _ h => h) (Or.inl ⟨by rfl, ?_⟩) ?_ ?_; rotate_left; (focus (intro w'; go_simp; with_reducible rfl)); rotate_left; (focus (simp only [Act.put, List.setIfInBounds_toArray, List.set_cons_zero, List.set_cons_succ, i64_w, i32_w]; rfl))
                                       refine pure_ (i := 67) (N := some 273) (v := ?_) (a' := ?_) Dn78_ rfl rfl (any_of HT_.out (by kernel_rfl)) (fun _ _ _ h => h) (Or.inl ⟨by rfl, ?_⟩) ?_ ?_; rotate_left; (focus (intro w'; go_simp; with_reducible rfl)); rotate_left; (focus (simp only [Act.put, List.setIfInBounds_toArray, List.set_cons_zero, List.set_cons_succ, i64_w, i32_w]; rfl))
                                       refine done_ (done_of HT_.out (by kernel_rfl)) ?_
                                       try go_wp2
                                       (try subst hji36)
                                       go_meet
                                       case rel => exact ⟨_, (false), (by first | rfl | (simp; done) | (simp [*]; done)), H', ⟨by have := HJ9.out; have := HJ15.out; have := HK3.out; have := HK4.out; have := HK5.out; have := HK6.out; first | omega | exact Nat.le_refl _⟩, ⟨by (with_reducible repeat (first | apply Kd.R_alloc | apply Kd.R_drewN | apply Kd.R_drew)); exact Kd.R_mono HO936.out (fun _ hk => ⟨hk.1.1.1.1.1.1, ⟨hk.1.1.1.1.2, ⟨hk.1.1.1.2, ⟨hk.1.1.2, hk.1.2⟩⟩⟩⟩)⟩, ⟨by (with_reducible repeat (first | apply Kd.R_alloc | apply Kd.R_drewN | apply Kd.R_drew)); exact Kd.R_mono HO939.out (fun _ hk => ⟨hk.1.1.1.1.1.1, ⟨hk.1.1.1.1.2, ⟨hk.1.1.1.2, ⟨hk.1.1.2, hk.1.2⟩⟩⟩⟩)⟩, ⟨by (with_reducible repeat (first | apply Kd.R_alloc | apply Kd.R_drewN | apply Kd.R_drew)); exact Kd.R_mono HO945.out (fun _ hk => ⟨hk.1.1.1.1.2, ⟨hk.1.1.1.2, ⟨hk.1.1.1.1.1.1, ⟨hk.1.1.2, hk.1.2⟩⟩⟩⟩)⟩, ⟨by (with_reducible repeat (first | apply Kd.R_alloc | apply Kd.R_drewN | apply Kd.R_drew)); exact Kd.R_mono HO948.out (fun _ hk => ⟨hk.1.1.1.1.2, ⟨hk.1.1.1.2, ⟨hk.1.1.1.1.1.1, ⟨hk.1.1.2, hk.1.2⟩⟩⟩⟩)⟩, ⟨by (with_reducible repeat (first | apply Kd.R_alloc | apply Kd.R_drewN | apply Kd.R_drew)); exact Kd.R_mono HO954.out (fun _ hk => ⟨hk.1.1.1.1.2, ⟨hk.1.1.1.2, ⟨hk.1.1.2, ⟨hk.1.2, hk.1.1.1.1.1.1⟩⟩⟩⟩)⟩, ⟨by (with_reducible repeat (first | apply Kd.R_alloc | apply Kd.R_drewN | apply Kd.R_drew)); exact Kd.R_mono HO957.out (fun _ hk => ⟨hk.1.1.1.1.2, ⟨hk.1.1.1.2, ⟨hk.1.1.2, ⟨hk.1.2, hk.1.1.1.1.1.1⟩⟩⟩⟩)⟩, ⟨by (with_reducible repeat (first | refine blk_drewN ?_ _ | refine blk_drew ?_ | refine blk_alloc ?_ _)); exact BK941.out⟩, ⟨by (with_reducible repeat (first | refine blk_drewN ?_ _ | refine blk_drew ?_ | refine blk_alloc ?_ _)); exact BK950.out⟩, ⟨by (with_reducible repeat (first | refine blk_drewN ?_ _ | refine blk_drew ?_ | refine blk_alloc ?_ _)); exact BK959.out⟩, ⟨by repeat (first | (with_reducible first | exact HB.out | apply below_alloc | apply pw_below_drewN | apply below_drew1 | refine below_set ?_ GE941.out | refine below_set ?_ GE950.out | refine below_set ?_ GE959.out) | exact HB.out)⟩⟩
                                     ·rw [if_neg c128] at H
                                      have c128b0 : ((t967.length : Int) == 0) = false := beq_eq_false_iff_ne.mpr c128
                                      have c128x : (t940 == 0) = false := by have h_ := c124b0; rw [c128b0] at h_; simpa using h_
                                      have c128b1 : ((t967.length : Int) != 0) = true := bne_iff_ne.mpr c128
                                      have c128b2 : ¬ (t967 = []) := fun h_ => c128 (by rw [h_]; rfl)
                                      as_aux_lemma =>
                                       have H' := Aside0.mk H
                                       clear H
                                       try go_wp2
                                       have n0_ := Aside0.mk (Kd.Q_drew HO_14.out); have n1_ := Aside0.mk (Kd.R_drew HO_18.out); have n2_ := Aside0.mk (Kd.R_drew HO_19.out); have n3_ := Aside0.mk (Kd.R_drew HO936.out); have n4_ := Aside0.mk (Kd.R_drew HO939.out); have n5_ := Aside0.mk (Kd.R_drew HO945.out); have n6_ := Aside0.mk (Kd.R_drew HO948.out); have n7_ := Aside0.mk (Kd.R_drew HO954.out); have n8_ := Aside0.mk (Kd.R_drew HO957.out); have n9_ := Aside0.mk (Kd.R_drew HO962.out); have n10_ := Aside0.mk (Kd.N_drew HO965.out); have n11_ := Aside0.mk (Kd.N_drew HO970.out); have n12_ := Aside0.mk (Kd.R_drew HO972.out); have n13_ := Aside0.mk (blk_drew BK941.out); have n14_ := Aside0.mk (blk_drew BK950.out); have n15_ := Aside0.mk (blk_drew BK959.out); have n16_ := Aside0.mk (below_drew1 HB.out); clear HO_14; clear HO_18; clear HO_19; clear HO936; clear HO939; clear HO945; clear HO948; clear HO954; clear HO957; clear HO962; clear HO965; clear HO970; clear HO972; clear BK941; clear BK950; clear BK959; clear HB; have HO_14 := n0_; have HO_18 := n1_; have HO_19 := n2_; have HO936 := n3_; have HO939 := n4_; have HO945 := n5_; have HO948 := n6_; have HO954 := n7_; have HO957 := n8_; have HO962 := n9_; have HO965 := n10_; have HO970 := n11_; have HO972 := n12_; have BK941 := n13_; have BK950 := n14_; have BK959 := n15_; have HB := n16_; clear n0_ n1_ n2_ n3_ n4_ n5_ n6_ n7_ n8_ n9_ n10_ n11_ n12_ n13_ n14_ n15_ n16_
                                       obtain ⟨Ao133, co133, eo133⟩ := Kd.N_slice HO970.out
                                       (first | subst eo133 | (injection eo133 with f1_ f2_ f3_; have f4_ := f1_.symm; have f5_ := f3_.symm; clear f1_ f2_ f3_; subst f4_; subst f5_))
                                       have p973 : 0 ≤ (0 : Int) := (by omega)
                                       have q973 : 0 < (t966.length : Int) := of_decide_eq_true (by first | (with_reducible assumption) | assumption)
                                       obtain ⟨ad973, A973_1, c973_1, A973_2, c973_2, e973, hx973_0, hx973_1, hx973_2, hl973_1, hi973_1, hl973_2, hi973_2⟩ := at_T64 (Kd.N_reads' HO970.out).2.2 0 p973 q973
                                       cases e973
                                       obtain ⟨ce973, hce973, hMe973, hcc973⟩ := Kd.N_get HO970.out z64 0 p973 (by first | exact q973 | exact of_decide_eq_true (by first | (with_reducible assumption) | assumption) | (have e_ := (Kd.N_reads' HO970.out).1; omega))
                                       obtain ⟨ua973_1, uc973_1, ua973_2, uc973_2, rfl, ul973_1, ge973_1, ul973_2, ge973_2⟩ := k64_openF hMe973
                                       have hv973_1 := hcc973 1 _ rfl
                                       rw [add_field _ _ 1 (by omega)] at hv973_1
                                       replace hv973_1 := Option.some.inj (hv973_1.symm.trans hx973_1)
                                       injection hv973_1 with hva_ hvn_ hvc_
                                       rw [hva_] at ge973_1
                                       rw [hvc_] at ul973_1
                                       have HL973_1 := Aside0.mk (show Kd.V (Kd.int .i64) 3 _ w.heap.size _ _ ((rd_T64 t966 0).f1) from Kd.V_mk ul973_1 ge973_1)
                                       clear hva_ hvn_ hvc_ ge973_1 ul973_1; have hv973_2 := hcc973 2 _ rfl
                                       rw [add_field _ _ 2 (by omega)] at hv973_2
                                       replace hv973_2 := Option.some.inj (hv973_2.symm.trans hx973_2)
                                       injection hv973_2 with hva_ hvn_ hvc_
                                       rw [hva_] at ge973_2
                                       rw [hvc_] at ul973_2
                                       have HL973_2 := Aside0.mk (show Kd.V (Kd.int .i64) 3 _ w.heap.size _ _ ((rd_T64 t966 0).f2) from Kd.V_mk ul973_2 ge973_2)
                                       clear hva_ hvn_ hvc_ ge973_2 ul973_2; clear hcc973 hce973
                                       have qi973 : (0 < t966.length) = True := eq_true (by omega)
                                       (try rw [show ((0 : Int)).toNat = 0 from rfl] at hx973_0)
                                       (try rw [show 0 * 3 = 0 from rfl] at hx973_0)
                                       (try rw [Addr.add_zero'] at hx973_0)
                                       (try rw [show ((0 : Int)).toNat = 0 from rfl] at hx973_1)
                                       (try rw [show 0 * 3 = 0 from rfl] at hx973_1)
                                       (try rw [Addr.add_zero'] at hx973_1)
                                       (try rw [show ((0 : Int)).toNat = 0 from rfl] at hx973_2)
                                       (try rw [show 0 * 3 = 0 from rfl] at hx973_2)
                                       (try rw [Addr.add_zero'] at hx973_2)
                                       have HR973_1 := Aside0.mk hi973_1; have HC973_1 := Aside0.mk hl973_1; clear hi973_1 hl973_1; have HR973_2 := Aside0.mk hi973_2; have HC973_2 := Aside0.mk hl973_2; clear hi973_2 hl973_2; replace p973 := eq_true p973; replace q973 := eq_true q973
                                       have p974 : 0 ≤ (1 : Int) := (by omega)
                                       have q974 : 1 < (t966.length : Int) := of_decide_eq_true (by first | (with_reducible assumption) | assumption)
                                       obtain ⟨ad974, A974_1, c974_1, A974_2, c974_2, e974, hx974_0, hx974_1, hx974_2, hl974_1, hi974_1, hl974_2, hi974_2⟩ := at_T64 (Kd.N_reads' HO970.out).2.2 1 p974 q974
                                       obtain rfl : ad973 = ad974 := (by injection e974)
                                       obtain ⟨ce974, hce974, hMe974, hcc974⟩ := Kd.N_get HO970.out z64 1 p974 (by first | exact q974 | exact of_decide_eq_true (by first | (with_reducible assumption) | assumption) | (have e_ := (Kd.N_reads' HO970.out).1; omega))
                                       obtain ⟨ua974_1, uc974_1, ua974_2, uc974_2, rfl, ul974_1, ge974_1, ul974_2, ge974_2⟩ := k64_openF hMe974
                                       have hv974_1 := hcc974 1 _ rfl
                                       rw [add_field _ _ 1 (by omega)] at hv974_1
                                       replace hv974_1 := Option.some.inj (hv974_1.symm.trans hx974_1)
                                       injection hv974_1 with hva_ hvn_ hvc_
                                       rw [hva_] at ge974_1
                                       rw [hvc_] at ul974_1
                                       have HL974_1 := Aside0.mk (show Kd.V (Kd.int .i64) 3 _ w.heap.size _ _ ((rd_T64 t966 1).f1) from Kd.V_mk ul974_1 ge974_1)
                                       clear hva_ hvn_ hvc_ ge974_1 ul974_1; have hv974_2 := hcc974 2 _ rfl
                                       rw [add_field _ _ 2 (by omega)] at hv974_2
                                       replace hv974_2 := Option.some.inj (hv974_2.symm.trans hx974_2)
                                       injection hv974_2 with hva_ hvn_ hvc_
                                       rw [hva_] at ge974_2
                                       rw [hvc_] at ul974_2
                                       have HL974_2 := Aside0.mk (show Kd.V (Kd.int .i64) 3 _ w.heap.size _ _ ((rd_T64 t966 1).f2) from Kd.V_mk ul974_2 ge974_2)
                                       clear hva_ hvn_ hvc_ ge974_2 ul974_2; clear hcc974 hce974
                                       (try simp only [show (1 : Int).toNat = 1 from rfl, Nat.reduceMul, Nat.reduceEqDiff, Go.Addr.add, ↓reduceIte] at hx974_0)
                                       (try simp only [show (1 : Int).toNat = 1 from rfl, Nat.reduceMul, Nat.reduceEqDiff, Go.Addr.add, ↓reduceIte] at hx974_1)
                                       (try simp only [show (1 : Int).toNat = 1 from rfl, Nat.reduceMul, Nat.reduceEqDiff, Go.Addr.add, ↓reduceIte] at hx974_2)
                                       have qi974 : (1 < t966.length) = True := eq_true (by omega)
                                       (try rw [show ((1 : Int)).toNat = 1 from rfl] at hx974_0)
                                       (try rw [show 1 * 3 = 3 from rfl] at hx974_0)
                                       (try rw [show ((1 : Int)).toNat = 1 from rfl] at hx974_1)
                                       (try rw [show 1 * 3 = 3 from rfl] at hx974_1)
                                       (try rw [show ((1 : Int)).toNat = 1 from rfl] at hx974_2)
                                       (try rw [show 1 * 3 = 3 from rfl] at hx974_2)
                                       have HR974_1 := Aside0.mk hi974_1; have HC974_1 := Aside0.mk hl974_1; clear hi974_1 hl974_1; have HR974_2 := Aside0.mk hi974_2; have HC974_2 := Aside0.mk hl974_2; clear hi974_2 hl974_2; replace p974 := eq_true p974; replace q974 := eq_true q974
                                       have p975 : 0 ≤ (2 : Int) := (by omega)
                                       have q975 : 2 < (t966.length : Int) := of_decide_eq_true (by first | (with_reducible assumption) | assumption)
                                       obtain ⟨ad975, A975_1, c975_1, A975_2, c975_2, e975, hx975_0, hx975_1, hx975_2, hl975_1, hi975_1, hl975_2, hi975_2⟩ := at_T64 (Kd.N_reads' HO970.out).2.2 2 p975 q975
                                       obtain rfl : ad973 = ad975 := (by injection e975)
                                       obtain ⟨ce975, hce975, hMe975, hcc975⟩ := Kd.N_get HO970.out z64 2 p975 (by first | exact q975 | exact of_decide_eq_true (by first | (with_reducible assumption) | assumption) | (have e_ := (Kd.N_reads' HO970.out).1; omega))
                                       obtain ⟨ua975_1, uc975_1, ua975_2, uc975_2, rfl, ul975_1, ge975_1, ul975_2, ge975_2⟩ := k64_openF hMe975
                                       have hv975_1 := hcc975 1 _ rfl
                                       rw [add_field _ _ 1 (by omega)] at hv975_1
                                       replace hv975_1 := Option.some.inj (hv975_1.symm.trans hx975_1)
                                       injection hv975_1 with hva_ hvn_ hvc_
                                       rw [hva_] at ge975_1
                                       rw [hvc_] at ul975_1
                                       have HL975_1 := Aside0.mk (show Kd.V (Kd.int .i64) 3 _ w.heap.size _ _ ((rd_T64 t966 2).f1) from Kd.V_mk ul975_1 ge975_1)
                                       clear hva_ hvn_ hvc_ ge975_1 ul975_1; have hv975_2 := hcc975 2 _ rfl
                                       rw [add_field _ _ 2 (by omega)] at hv975_2
                                       replace hv975_2 := Option.some.inj (hv975_2.symm.trans hx975_2)
                                       injection hv975_2 with hva_ hvn_ hvc_
                                       rw [hva_] at ge975_2
                                       rw [hvc_] at ul975_2
                                       have HL975_2 := Aside0.mk (show Kd.V (Kd.int .i64) 3 _ w.heap.size _ _ ((rd_T64 t966 2).f2) from Kd.V_mk ul975_2 ge975_2)
                                       clear hva_ hvn_ hvc_ ge975_2 ul975_2; clear hcc975 hce975
                                       (try simp only [show (2 : Int).toNat = 2 from rfl, Nat.reduceMul, Nat.reduceEqDiff, Go.Addr.add, ↓reduceIte] at hx975_0)
                                       (try simp only [show (2 : Int).toNat = 2 from rfl, Nat.reduceMul, Nat.reduceEqDiff, Go.Addr.add, ↓reduceIte] at hx975_1)
                                       (try simp only [show (2 : Int).toNat = 2 from rfl, Nat.reduceMul, Nat.reduceEqDiff, Go.Addr.add, ↓reduceIte] at hx975_2)
                                       have qi975 : (2 < t966.length) = True := eq_true (by omega)
                                       (try rw [show ((2 : Int)).toNat = 2 from rfl] at hx975_0)
                                       (try rw [show 2 * 3 = 6 from rfl] at hx975_0)
                                       (try rw [show ((2 : Int)).toNat = 2 from rfl] at hx975_1)
                                       (try rw [show 2 * 3 = 6 from rfl] at hx975_1)
                                       (try rw [show ((2 : Int)).toNat = 2 from rfl] at hx975_2)
                                       (try rw [show 2 * 3 = 6 from rfl] at hx975_2)
                                       have HR975_1 := Aside0.mk hi975_1; have HC975_1 := Aside0.mk hl975_1; clear hi975_1 hl975_1; have HR975_2 := Aside0.mk hi975_2; have HC975_2 := Aside0.mk hl975_2; clear hi975_2 hl975_2; replace p975 := eq_true p975; replace q975 := eq_true q975
                                       obtain ⟨Ao134, co134, eo134⟩ := Kd.R_slice HO972.out
                                       (first | subst eo134 | (injection eo134 with f1_ f2_ f3_; have f4_ := f1_.symm; have f5_ := f3_.symm; clear f1_ f2_ f3_; subst f4_; subst f5_))
                                       refine start_ (n := 68) (S := fun w' => w'.cell? ⟨gb941, 0, none⟩ = some (.string t933) ∧ w'.cell? ⟨gb941, 1, none⟩ = some (.slice Ao87 t934.length co87) ∧ w'.cell? ⟨gb941, 2, none⟩ = some (.slice Ao88 t937.length co88) ∧ w'.cell? ⟨gb959, 0, none⟩ = some (.string t951) ∧ w'.cell? ⟨gb959, 1, none⟩ = some (.slice Ao102 t952.length co102) ∧ w'.cell? ⟨gb959, 2, none⟩ = some (.slice Ao103 t955.length co103) ∧ w'.cell? ⟨gb950, 0, none⟩ = some (.string t942) ∧ w'.cell? ⟨gb950, 1, none⟩ = some (.slice Ao94 t943.length co94) ∧ w'.cell? ⟨gb950, 2, none⟩ = some (.slice Ao95 t946.length co95) ∧ w'.cell? ad973 = some (.string ((rd_T64 t966 0).f0)) ∧ w'.cell? ⟨ad973.block, ad973.off + 1, none⟩ = some (.slice A973_1 ((rd_T64 t966 0).f1).length c973_1) ∧ w'.cell? ⟨ad973.block, ad973.off + 2, none⟩ = some (.slice A973_2 ((rd_T64 t966 0).f2).length c973_2) ∧ w'.cell? ⟨ad973.block, ad973.off + 3, none⟩ = some (.string ((rd_T64 t966 1).f0)) ∧ w'.cell? ⟨ad973.block, ad973.off + 3 + 1, none⟩ = some (.slice A974_1 ((rd_T64 t966 1).f1).length c974_1) ∧ w'.cell? ⟨ad973.block, ad973.off + 3 + 2, none⟩ = some (.slice A974_2 ((rd_T64 t966 1).f2).length c974_2) ∧ w'.cell? ⟨ad973.block, ad973.off + 6, none⟩ = some (.string ((rd_T64 t966 2).f0)) ∧ w'.cell? ⟨ad973.block, ad973.off + 6 + 1, none⟩ = some (.slice A975_1 ((rd_T64 t966 2).f1).length c975_1) ∧ w'.cell? ⟨ad973.block, ad973.off + 6 + 2, none⟩ = some (.slice A975_2 ((rd_T64 t966 2).f2).length c975_2)) (ds := []) #[false, false, false, false, false, false, false, false, false, false, false, false, false, false, false, false, false, false, false, false, false, false, false, false, false, false, false, false, false, false, false, false, false, false, false, false, false, false, false, false, false, false, false, false, false, false, false, false, false, false, false, false, false, false, false, false, false, false, false, false, false, false, false, false, false, false, false, false] (by kernel_rfl) rfl rfl ⟨(blk_cell BK941.out 0).trans rfl, (blk_cell BK941.out 1).trans rfl, (blk_cell BK941.out 2).trans rfl, (blk_cell BK959.out 0).trans rfl, (blk_cell BK959.out 1).trans rfl, (blk_cell BK959.out 2).trans rfl, (blk_cell BK950.out 0).trans rfl, (blk_cell BK950.out 1).trans rfl, (blk_cell BK950.out 2).trans rfl, hx973_0, hx973_1, hx973_2, hx974_0, hx974_1, hx974_2, hx975_0, hx975_1, hx975_2⟩ (fun hHeld => ?_); refine with_tabW foghornlaw20_MendOver.tab40 foghornlaw20_MendOver.bits40 (fun HT_ HW_ => ?_)
                                       generalize w112.drew = w132 at HO_14 HO_18 HO_19 HO936 HO939 HO945 HO948 HO954 HO957 HO962 HO965 HO970 HO972 BK941 BK950 BK959 HB HL973_1 HL973_2 HL974_1 HL974_2 HL975_1 HL975_2 HR973_1 HR973_2 HR974_1 HR974_2 HR975_1 HR975_2 hx973_0 hx973_1 hx973_2 hx974_0 hx974_1 hx974_2 hx975_0 hx975_1 hx975_2 hHeld ⊢
                                       refine pure_ (i := 0) (N := some 206) (v := ?_) (a' := ?_) Dn11_ rfl rfl (any_of HT_.out (by kernel_rfl)) (fun _ _ _ h => h) (Or.inl ⟨by rfl, ?_⟩) ?_ ?_; rotate_left; (focus (intro w'; go_simp; with_reducible rfl)); rotate_left; (focus (simp only [Act.put, List.setIfInBounds_toArray, List.set_cons_zero, List.set_cons_succ, i64_w, i32_w]; rfl))
                                       refine pure_ (i := 1) (N := some 207) (v := ?_) (a' := ?_) Dn12_ rfl rfl (any_of HT_.out (by kernel_rfl)) (fun _ _ _ h => h) (Or.inl ⟨by rfl, ?_⟩) ?_ ?_; rotate_left; (focus (intro w'; go_simp; with_reducible rfl)); rotate_left; (focus (simp only [Act.put, List.setIfInBounds_toArray, List.set_cons_zero, List.set_cons_succ, i64_w, i32_w]; rfl))
                                       refine pure_ (i := 2) (N := some 208) (v := ?_) (a' := ?_) Dn13_ rfl rfl (any_of HT_.out (by kernel_rfl)) (fun _ _ _ h => h) (Or.inl ⟨by rfl, ?_⟩) ?_ ?_; rotate_left; (focus (intro w'; go_simp; with_reducible rfl)); rotate_left; (focus (simp only [Act.put, List.setIfInBounds_toArray, List.set_cons_zero, List.set_cons_succ, i64_w, i32_w]; rfl))
                                       refine pure_ (i := 3) (N := some 209) (v := ?_) (a' := ?_) Dn14_ rfl rfl (any_of HT_.out (by kernel_rfl)) (fun _ _ _ h => h) (Or.inl ⟨by rfl, ?_⟩) ?_ ?_; rotate_left; (focus (intro w'; go_simp; with_reducible rfl)); rotate_left; (focus (simp only [Act.put, List.setIfInBounds_toArray, List.set_cons_zero, List.set_cons_succ, i64_w, i32_w]; rfl))
                                       refine pure_ (i := 4) (N := some 210) (v := ?_) (a' := ?_) Dn15_ rfl rfl (any_of HT_.out (by kernel_rfl)) (fun _ _ _ h => h) (Or.inl ⟨by rfl, ?_⟩) ?_ ?_; rotate_left; (focus (intro w'; go_simp; with_reducible rfl)); rotate_left; (focus (simp only [Act.put, List.setIfInBounds_toArray, List.set_cons_zero, List.set_cons_succ, i64_w, i32_w]; rfl))
                                       refine pure_ (i := 5) (N := some 211) (v := ?_) (a' := ?_) Dn16_ rfl rfl (any_of HT_.out (by kernel_rfl)) (fun _ _ _ h => h) (Or.inl ⟨by rfl, ?_⟩) ?_ ?_; rotate_left; (focus (intro w'; go_simp; with_reducible rfl)); rotate_left; (focus (simp only [Act.put, List.setIfInBounds_toArray, List.set_cons_zero, List.set_cons_succ, i64_w, i32_w]; rfl))
                                       refine pure_ (i := 6) (N := some 212) (v := ?_) (a' := ?_) Dn17_ rfl rfl (any_of HT_.out (by kernel_rfl)) (fun _ _ _ h => h) (Or.inl ⟨by rfl, ?_⟩) ?_ ?_; rotate_left; (focus (intro w'; go_simp; with_reducible rfl)); rotate_left; (focus (simp only [Act.put, List.setIfInBounds_toArray, List.set_cons_zero, List.set_cons_succ, i64_w, i32_w]; rfl))
                                       refine pure_ (i := 7) (N := some 213) (v := ?_) (a' := ?_) Dn18_ rfl rfl (any_of HT_.out (by kernel_rfl)) (fun _ _ _ h => h) (Or.inl ⟨by rfl, ?_⟩) ?_ ?_; rotate_left; (focus (intro w'; go_simp; with_reducible rfl)); rotate_left; (focus (simp only [Act.put, List.setIfInBounds_toArray, List.set_cons_zero, List.set_cons_succ, i64_w, i32_w]; rfl))
                                       refine pure_ (i := 8) (N := some 214) (v := ?_) (a' := ?_) Dn19_ rfl rfl (any_of HT_.out (by kernel_rfl)) (fun _ _ _ h => h) (Or.inl ⟨by rfl, ?_⟩) ?_ ?_; rotate_left; (focus (intro w'; go_simp; with_reducible rfl)); rotate_left; (focus (simp only [Act.put, List.setIfInBounds_toArray, List.set_cons_zero, List.set_cons_succ, i64_w, i32_w]; rfl))
                                       refine pure_ (i := 9) (N := some 215) (v := ?_) (a' := ?_) Dn20_ rfl rfl (any_of HT_.out (by kernel_rfl)) (fun _ _ _ h => h) (Or.inl ⟨by rfl, ?_⟩) ?_ ?_; rotate_left; (focus (intro w'; go_simp; with_reducible rfl)); rotate_left; (focus (simp only [Act.put, List.setIfInBounds_toArray, List.set_cons_zero, List.set_cons_succ, i64_w, i32_w]; rfl))
                                       refine pure_ (i := 10) (N := some 216) (v := ?_) (a' := ?_) Dn21_ rfl rfl (any_of HT_.out (by kernel_rfl)) (fun _ _ _ h => h) (Or.inl ⟨by rfl, ?_⟩) ?_ ?_; rotate_left; (focus (intro w'; go_simp; with_reducible rfl)); rotate_left; (focus (simp only [Act.put, List.setIfInBounds_toArray, List.set_cons_zero, List.set_cons_succ, i64_w, i32_w]; rfl))
                                       refine pure_ (i := 11) (N := some 217) (v := ?_) (a' := ?_) Dn22_ rfl rfl (any_of HT_.out (by kernel_rfl)) (fun _ _ _ h => h) (Or.inl ⟨by rfl, ?_⟩) ?_ ?_; rotate_left; (focus (intro w'; go_simp; with_reducible rfl)); rotate_left; (focus (simp only [Act.put, List.setIfInBounds_toArray, List.set_cons_zero, List.set_cons_succ, i64_w, i32_w]; rfl))
                                       refine pure_ (i := 12) (N := some 218) (v := ?_) (a' := ?_) Dn23_ rfl rfl (any_of HT_.out (by kernel_rfl)) (fun _ _ _ h => h) (Or.inl ⟨by rfl, ?_⟩) ?_ ?_; rotate_left; (focus (intro w'; go_simp; with_reducible rfl)); rotate_left; (focus (simp only [Act.put, List.setIfInBounds_toArray, List.set_cons_zero, List.set_cons_succ, i64_w, i32_w]; rfl))
                                       refine pure_ (i := 13) (N := some 219) (v := ?_) (a' := ?_) Dn24_ rfl rfl (any_of HT_.out (by kernel_rfl)) (fun _ _ _ h => h) (Or.inl ⟨by rfl, ?_⟩) ?_ ?_; rotate_left; (focus (intro w'; go_simp; with_reducible rfl)); rotate_left; (focus (simp only [Act.put, List.setIfInBounds_toArray, List.set_cons_zero, List.set_cons_succ, i64_w, i32_w]; rfl))
                                       refine pure_ (i := 14) (N := some 220) (v := ?_) (a' := ?_) Dn25_ rfl rfl (any_of HT_.out (by kernel_rfl)) (fun _ _ _ h => h) (Or.inl ⟨by rfl, ?_⟩) ?_ ?_; rotate_left; (focus (intro w'; go_simp; with_reducible rfl)); rotate_left; (focus (simp only [Act.put, List.setIfInBounds_toArray, List.set_cons_zero, List.set_cons_succ, i64_w, i32_w]; rfl))
                                       refine pure_ (i := 15) (N := some 221) (v := ?_) (a' := ?_) Dn26_ rfl rfl (any_of HT_.out (by kernel_rfl)) (fun _ _ _ h => h) (Or.inl ⟨by rfl, ?_⟩) ?_ ?_; rotate_left; (focus (intro w'; go_simp; with_reducible rfl)); rotate_left; (focus (simp only [Act.put, List.setIfInBounds_toArray, List.set_cons_zero, List.set_cons_succ, i64_w, i32_w]; rfl))
                                       refine pure_ (i := 16) (N := some 222) (v := ?_) (a' := ?_) Dn27_ rfl rfl (any_of HT_.out (by kernel_rfl)) (fun _ _ _ h => h) (Or.inl ⟨by rfl, ?_⟩) ?_ ?_; rotate_left; (focus (intro w'; go_simp; with_reducible rfl)); rotate_left; (focus (simp only [Act.put, List.setIfInBounds_toArray, List.set_cons_zero, List.set_cons_succ, i64_w, i32_w]; rfl))
                                       refine pure_ (i := 17) (N := some 223) (v := ?_) (a' := ?_) Dn28_ rfl rfl (any_of HT_.out (by kernel_rfl)) (fun _ _ _ h => h) (Or.inl ⟨by rfl, ?_⟩) ?_ ?_; rotate_left; (focus (intro w'; go_simp; with_reducible rfl)); rotate_left; (focus (simp only [Act.put, List.setIfInBounds_toArray, List.set_cons_zero, List.set_cons_succ, i64_w, i32_w]; rfl))
                                       refine pure_ (i := 18) (N := some 224) (v := ?_) (a' := ?_) Dn29_ rfl rfl (any_of HT_.out (by kernel_rfl)) (fun _ _ _ h => h) (Or.inl ⟨by rfl, ?_⟩) ?_ ?_; rotate_left; (focus (intro w'; go_simp; with_reducible rfl)); rotate_left; (focus (simp only [Act.put, List.setIfInBounds_toArray, List.set_cons_zero, List.set_cons_succ, i64_w, i32_w]; rfl))
                                       refine pure_ (i := 20) (N := some 226) (v := ?_) (a' := ?_) Dn30_ rfl rfl (any_of HT_.out (by kernel_rfl)) (fun _ _ _ h => h) (Or.inl ⟨by rfl, ?_⟩) ?_ ?_; rotate_left; (focus (intro w'; go_simp; with_reducible rfl)); rotate_left; (focus (simp only [Act.put, List.setIfInBounds_toArray, List.set_cons_zero, List.set_cons_succ, i64_w, i32_w]; rfl))
                                       refine take_ (i := 19) (N := some 225) (v := ?_) (a' := ?_) Dn31_ rfl rfl (take_ofW HT_.out HW_.out (by kernel_rfl)) (fun _ _ _ h => h) (Or.inl ⟨by rfl, ?_⟩) hHeld ?_ ?_
                                       rotate_left
                                       ·rintro w' ⟨s0, s1, s2, s3, s4, s5, s6, s7, s8, s9, s10, s11, s12, s13, s14, s15, s16, s17⟩
                                        go_simp
                                        with_reducible rfl
                                       rotate_left
                                       ·simp only [Act.put, List.setIfInBounds_toArray, List.set_cons_zero, List.set_cons_succ, i64_w, i32_w]
                                        rfl
                                       refine take_ (i := 21) (N := some 227) (v := ?_) (a' := ?_) Dn32_ rfl rfl (take_ofW HT_.out HW_.out (by kernel_rfl)) (fun _ _ _ h => h) (Or.inl ⟨by rfl, ?_⟩) hHeld ?_ ?_
                                       rotate_left
                                       ·rintro w' ⟨s0, s1, s2, s3, s4, s5, s6, s7, s8, s9, s10, s11, s12, s13, s14, s15, s16, s17⟩
                                        go_simp
                                        with_reducible rfl
                                       rotate_left
                                       ·simp only [Act.put, List.setIfInBounds_toArray, List.set_cons_zero, List.set_cons_succ, i64_w, i32_w]
                                        rfl
                                       refine pure_ (i := 22) (N := some 228) (v := ?_) (a' := ?_) Dn33_ rfl rfl (any_of HT_.out (by kernel_rfl)) (fun _ _ _ h => h) (Or.inl ⟨by rfl, ?_⟩) ?_ ?_; rotate_left; (focus (intro w'; go_simp; with_reducible rfl)); rotate_left; (focus (simp only [Act.put, List.setIfInBounds_toArray, List.set_cons_zero, List.set_cons_succ, i64_w, i32_w]; rfl))
                                       refine pure_ (i := 23) (N := some 229) (v := ?_) (a' := ?_) Dn34_ rfl rfl (any_of HT_.out (by kernel_rfl)) (fun _ _ _ h => h) (Or.inl ⟨by rfl, ?_⟩) ?_ ?_; rotate_left; (focus (intro w'; go_simp; with_reducible rfl)); rotate_left; (focus (simp only [Act.put, List.setIfInBounds_toArray, List.set_cons_zero, List.set_cons_succ, i64_w, i32_w]; rfl))
                                       refine pure_ (i := 24) (N := some 230) (v := ?_) (a' := ?_) Dn35_ rfl rfl (any_of HT_.out (by kernel_rfl)) (fun _ _ _ h => h) (Or.inl ⟨by rfl, ?_⟩) ?_ ?_; rotate_left; (focus (intro w'; go_simp; with_reducible rfl)); rotate_left; (focus (simp only [Act.put, List.setIfInBounds_toArray, List.set_cons_zero, List.set_cons_succ, i64_w, i32_w]; rfl))
                                       refine pure_ (i := 25) (N := some 231) (v := ?_) (a' := ?_) Dn36_ rfl rfl (any_of HT_.out (by kernel_rfl)) (fun _ _ _ h => h) (Or.inl ⟨by rfl, ?_⟩) ?_ ?_; rotate_left; (focus (intro w'; go_simp; with_reducible rfl)); rotate_left; (focus (simp only [Act.put, List.setIfInBounds_toArray, List.set_cons_zero, List.set_cons_succ, i64_w, i32_w]; rfl))
                                       refine pure_ (i := 26) (N := some 232) (v := ?_) (a' := ?_) Dn37_ rfl rfl (any_of HT_.out (by kernel_rfl)) (fun _ _ _ h => h) (Or.inl ⟨by rfl, ?_⟩) ?_ ?_; rotate_left; (focus (intro w'; go_simp; with_reducible rfl)); rotate_left; (focus (simp only [Act.put, List.setIfInBounds_toArray, List.set_cons_zero, List.set_cons_succ, i64_w, i32_w]; rfl))
                                       refine pure_ (i := 27) (N := some 233) (v := ?_) (a' := ?_) Dn38_ rfl rfl (any_of HT_.out (by kernel_rfl)) (fun _ _ _ h => h) (Or.inl ⟨by rfl, ?_⟩) ?_ ?_; rotate_left; (focus (intro w'; go_simp; with_reducible rfl)); rotate_left; (focus (simp only [Act.put, List.setIfInBounds_toArray, List.set_cons_zero, List.set_cons_succ, i64_w, i32_w]; rfl))
                                       refine pure_ (i := 29) (N := some 235) (v := ?_) (a' := ?_) Dn39_ rfl rfl (any_of HT_.out (by kernel_rfl)) (fun _ _ _ h => h) (Or.inl ⟨by rfl, ?_⟩) ?_ ?_; rotate_left; (focus (intro w'; go_simp; with_reducible rfl)); rotate_left; (focus (simp only [Act.put, List.setIfInBounds_toArray, List.set_cons_zero, List.set_cons_succ, i64_w, i32_w]; rfl))
                                       refine take_ (i := 28) (N := some 234) (v := ?_) (a' := ?_) Dn40_ rfl rfl (take_ofW HT_.out HW_.out (by kernel_rfl)) (fun _ _ _ h => h) (Or.inl ⟨by rfl, ?_⟩) hHeld ?_ ?_
                                       rotate_left
                                       ·rintro w' ⟨s0, s1, s2, s3, s4, s5, s6, s7, s8, s9, s10, s11, s12, s13, s14, s15, s16, s17⟩
                                        go_simp
                                        with_reducible rfl
                                       rotate_left
                                       ·simp only [Act.put, List.setIfInBounds_toArray, List.set_cons_zero, List.set_cons_succ, i64_w, i32_w]
                                        rfl
                                       refine take_ (i := 30) (N := some 236) (v := ?_) (a' := ?_) Dn41_ rfl rfl (take_ofW HT_.out HW_.out (by kernel_rfl)) (fun _ _ _ h => h) (Or.inl ⟨by rfl, ?_⟩) hHeld ?_ ?_
                                       rotate_left
                                       ·rintro w' ⟨s0, s1, s2, s3, s4, s5, s6, s7, s8, s9, s10, s11, s12, s13, s14, s15, s16, s17⟩
                                        go_simp
                                        with_reducible rfl
                                       rotate_left
                                       ·simp only [Act.put, List.setIfInBounds_toArray, List.set_cons_zero, List.set_cons_succ, i64_w, i32_w]
                                        rfl
                                       refine pure_ (i := 31) (N := some 237) (v := ?_) (a' := ?_) Dn42_ rfl rfl (any_of HT_.out (by kernel_rfl)) (fun _ _ _ h => h) (Or.inl ⟨by rfl, ?_⟩) ?_ ?_; rotate_left; (focus (intro w'; go_simp; with_reducible rfl)); rotate_left; (focus (simp only [Act.put, List.setIfInBounds_toArray, List.set_cons_zero, List.set_cons_succ, i64_w, i32_w]; rfl))
                                       refine pure_ (i := 32) (N := some 238) (v := ?_) (a' := ?_) Dn43_ rfl rfl (any_of HT_.out (by kernel_rfl)) (fun _ _ _ h => h) (Or.inl ⟨by rfl, ?_⟩) ?_ ?_; rotate_left; (focus (intro w'; go_simp; with_reducible rfl)); rotate_left; (focus (simp only [Act.put, List.setIfInBounds_toArray, List.set_cons_zero, List.set_cons_succ, i64_w, i32_w]; rfl))
                                       refine pure_ (i := 33) (N := some 239) (v := ?_) (a' := ?_) Dn44_ rfl rfl (any_of HT_.out (by kernel_rfl)) (fun _ _ _ h => h) (Or.inl ⟨by rfl, ?_⟩) ?_ ?_; rotate_left; (focus (intro w'; go_simp; with_reducible rfl)); rotate_left; (focus (simp only [Act.put, List.setIfInBounds_toArray, List.set_cons_zero, List.set_cons_succ, i64_w, i32_w]; rfl))
                                       refine pure_ (i := 34) (N := some 240) (v := ?_) (a' := ?_) Dn45_ rfl rfl (any_of HT_.out (by kernel_rfl)) (fun _ _ _ h => h) (Or.inl ⟨by rfl, ?_⟩) ?_ ?_; rotate_left; (focus (intro w'; go_simp; with_reducible rfl)); rotate_left; (focus (simp only [Act.put, List.setIfInBounds_toArray, List.set_cons_zero, List.set_cons_succ, i64_w, i32_w]; rfl))
                                       refine pure_ (i := 35) (N := some 241) (v := ?_) (a' := ?_) Dn46_ rfl rfl (any_of HT_.out (by kernel_rfl)) (fun _ _ _ h => h) (Or.inl ⟨by rfl, ?_⟩) ?_ ?_; rotate_left; (focus (intro w'; go_simp; with_reducible rfl)); rotate_left; (focus (simp only [Act.put, List.setIfInBounds_toArray, List.set_cons_zero, List.set_cons_succ, i64_w, i32_w]; rfl))
                                       refine pure_ (i := 36) (N := some 242) (v := ?_) (a' := ?_) Dn47_ rfl rfl (any_of HT_.out (by kernel_rfl)) (fun _ _ _ h => h) (Or.inl ⟨by rfl, ?_⟩) ?_ ?_; rotate_left; (focus (intro w'; go_simp; with_reducible rfl)); rotate_left; (focus (simp only [Act.put, List.setIfInBounds_toArray, List.set_cons_zero, List.set_cons_succ, i64_w, i32_w]; rfl))
                                       refine pure_ (i := 38) (N := some 244) (v := ?_) (a' := ?_) Dn48_ rfl rfl (any_of HT_.out (by kernel_rfl)) (fun _ _ _ h => h) (Or.inl ⟨by rfl, ?_⟩) ?_ ?_; rotate_left; (focus (intro w'; go_simp; with_reducible rfl)); rotate_left; (focus (simp only [Act.put, List.setIfInBounds_toArray, List.set_cons_zero, List.set_cons_succ, i64_w, i32_w]; rfl))
                                       refine take_ (i := 37) (N := some 243) (v := ?_) (a' := ?_) Dn49_ rfl rfl (take_ofW HT_.out HW_.out (by kernel_rfl)) (fun _ _ _ h => h) (Or.inl ⟨by rfl, ?_⟩) hHeld ?_ ?_
                                       rotate_left
                                       ·rintro w' ⟨s0, s1, s2, s3, s4, s5, s6, s7, s8, s9, s10, s11, s12, s13, s14, s15, s16, s17⟩
                                        go_simp
                                        with_reducible rfl
                                       rotate_left
                                       ·simp only [Act.put, List.setIfInBounds_toArray, List.set_cons_zero, List.set_cons_succ, i64_w, i32_w]
                                        rfl
                                       refine pure_ (i := 39) (N := some 245) (v := ?_) (a' := ?_) Dn50_ rfl rfl (any_of HT_.out (by kernel_rfl)) (fun _ _ _ h => h) (Or.inl ⟨by rfl, ?_⟩) ?_ ?_; rotate_left; (focus (intro w'; go_simp; with_reducible rfl)); rotate_left; (focus (simp only [Act.put, List.setIfInBounds_toArray, List.set_cons_zero, List.set_cons_succ, i64_w, i32_w]; rfl))
                                       refine pure_ (i := 40) (N := some 246) (v := ?_) (a' := ?_) Dn51_ rfl rfl (any_of HT_.out (by kernel_rfl)) (fun _ _ _ h => h) (Or.inl ⟨by rfl, ?_⟩) ?_ ?_; rotate_left; (focus (intro w'; go_simp; with_reducible rfl)); rotate_left; (focus (simp only [Act.put, List.setIfInBounds_toArray, List.set_cons_zero, List.set_cons_succ, i64_w, i32_w]; rfl))
                                       refine pure_ (i := 41) (N := some 247) (v := ?_) (a' := ?_) Dn52_ rfl rfl (any_of HT_.out (by kernel_rfl)) (fun _ _ _ h => h) (Or.inl ⟨by rfl, ?_⟩) ?_ ?_; rotate_left; (focus (intro w'; go_simp; with_reducible rfl)); rotate_left; (focus (simp only [Act.put, List.setIfInBounds_toArray, List.set_cons_zero, List.set_cons_succ, i64_w, i32_w]; rfl))
                                       refine pure_ (i := 42) (N := some 248) (v := ?_) (a' := ?_) Dn53_ rfl rfl (any_of HT_.out (by kernel_rfl)) (fun _ _ _ h => h) (Or.inl ⟨by rfl, ?_⟩) ?_ ?_; rotate_left; (focus (intro w'; go_simp; with_reducible rfl)); rotate_left; (focus (simp only [Act.put, List.setIfInBounds_toArray, List.set_cons_zero, List.set_cons_succ, i64_w, i32_w]; rfl))
                                       refine pure_ (i := 43) (N := some 249) (v := ?_) (a' := ?_) Dn54_ rfl rfl (any_of HT_.out (by kernel_rfl)) (fun _ _ _ h => h) (Or.inl ⟨by rfl, ?_⟩) ?_ ?_; rotate_left; (focus (intro w'; go_simp; with_reducible rfl)); rotate_left; (focus (simp only [Act.put, List.setIfInBounds_toArray, List.set_cons_zero, List.set_cons_succ, i64_w, i32_w]; rfl))
                                       refine pure_ (i := 44) (N := some 250) (v := ?_) (a' := ?_) Dn55_ rfl rfl (any_of HT_.out (by kernel_rfl)) (fun _ _ _ h => h) (Or.inl ⟨by rfl, ?_⟩) ?_ ?_; rotate_left; (focus (intro w'; go_simp; with_reducible rfl)); rotate_left; (focus (simp only [Act.put, List.setIfInBounds_toArray, List.set_cons_zero, List.set_cons_succ, i64_w, i32_w]; rfl))
                                       refine pure_ (i := 46) (N := some 252) (v := ?_) (a' := ?_) Dn56_ rfl rfl (any_of HT_.out (by kernel_rfl)) (fun _ _ _ h => h) (Or.inl ⟨by rfl, ?_⟩) ?_ ?_; rotate_left; (focus (intro w'; go_simp; with_reducible rfl)); rotate_left; (focus (simp only [Act.put, List.setIfInBounds_toArray, List.set_cons_zero, List.set_cons_succ, i64_w, i32_w]; rfl))
                                       refine take_ (i := 45) (N := some 251) (v := ?_) (a' := ?_) Dn57_ rfl rfl (take_ofW HT_.out HW_.out (by kernel_rfl)) (fun _ _ _ h => h) (Or.inl ⟨by rfl, ?_⟩) hHeld ?_ ?_
                                       rotate_left
                                       ·rintro w' ⟨s0, s1, s2, s3, s4, s5, s6, s7, s8, s9, s10, s11, s12, s13, s14, s15, s16, s17⟩
                                        go_simp
                                        with_reducible rfl
                                       rotate_left
                                       ·simp only [Act.put, List.setIfInBounds_toArray, List.set_cons_zero, List.set_cons_succ, i64_w, i32_w]
                                        rfl
                                       refine take_ (i := 47) (N := some 253) (v := ?_) (a' := ?_) Dn58_ rfl rfl (take_ofW HT_.out HW_.out (by kernel_rfl)) (fun _ _ _ h => h) (Or.inl ⟨by rfl, ?_⟩) hHeld ?_ ?_
                                       rotate_left
                                       ·rintro w' ⟨s0, s1, s2, s3, s4, s5, s6, s7, s8, s9, s10, s11, s12, s13, s14, s15, s16, s17⟩
                                        go_simp
                                        with_reducible rfl
                                       rotate_left
                                       ·simp only [Act.put, List.setIfInBounds_toArray, List.set_cons_zero, List.set_cons_succ, i64_w, i32_w]
                                        rfl
                                       refine pure_ (i := 48) (N := some 254) (v := ?_) (a' := ?_) Dn59_ rfl rfl (any_of HT_.out (by kernel_rfl)) (fun _ _ _ h => h) (Or.inl ⟨by rfl, ?_⟩) ?_ ?_; rotate_left; (focus (intro w'; go_simp; with_reducible rfl)); rotate_left; (focus (simp only [Act.put, List.setIfInBounds_toArray, List.set_cons_zero, List.set_cons_succ, i64_w, i32_w]; rfl))
                                       refine pure_ (i := 49) (N := some 255) (v := ?_) (a' := ?_) Dn60_ rfl rfl (any_of HT_.out (by kernel_rfl)) (fun _ _ _ h => h) (Or.inl ⟨by rfl, ?_⟩) ?_ ?_; rotate_left; (focus (intro w'; go_simp; with_reducible rfl)); rotate_left; (focus (simp only [Act.put, List.setIfInBounds_toArray, List.set_cons_zero, List.set_cons_succ, i64_w, i32_w]; rfl))
                                       refine pure_ (i := 50) (N := some 256) (v := ?_) (a' := ?_) Dn61_ rfl rfl (any_of HT_.out (by kernel_rfl)) (fun _ _ _ h => h) (Or.inl ⟨by rfl, ?_⟩) ?_ ?_; rotate_left; (focus (intro w'; go_simp; with_reducible rfl)); rotate_left; (focus (simp only [Act.put, List.setIfInBounds_toArray, List.set_cons_zero, List.set_cons_succ, i64_w, i32_w]; rfl))
                                       refine pure_ (i := 51) (N := some 257) (v := ?_) (a' := ?_) Dn62_ rfl rfl (any_of HT_.out (by kernel_rfl)) (fun _ _ _ h => h) (Or.inl ⟨by rfl, ?_⟩) ?_ ?_; rotate_left; (focus (intro w'; go_simp; with_reducible rfl)); rotate_left; (focus (simp only [Act.put, List.setIfInBounds_toArray, List.set_cons_zero, List.set_cons_succ, i64_w, i32_w]; rfl))
                                       refine pure_ (i := 52) (N := some 258) (v := ?_) (a' := ?_) Dn63_ rfl rfl (any_of HT_.out (by kernel_rfl)) (fun _ _ _ h => h) (Or.inl ⟨by rfl, ?_⟩) ?_ ?_; rotate_left; (focus (intro w'; go_simp; with_reducible rfl)); rotate_left; (focus (simp only [Act.put, List.setIfInBounds_toArray, List.set_cons_zero, List.set_cons_succ, i64_w, i32_w]; rfl))
                                       refine pure_ (i := 53) (N := some 259) (v := ?_) (a' := ?_) Dn64_ rfl rfl (any_of HT_.out (by kernel_rfl)) (fun _ _ _ h => h) (Or.inl ⟨by rfl, ?_⟩) ?_ ?_; rotate_left; (focus (intro w'; go_simp; with_reducible rfl)); rotate_left; (focus (simp only [Act.put, List.setIfInBounds_toArray, List.set_cons_zero, List.set_cons_succ, i64_w, i32_w]; rfl))
                                       refine pure_ (i := 54) (N := some 260) (v := ?_) (a' := ?_) Dn65_ rfl rfl (any_of HT_.out (by kernel_rfl)) (fun _ _ _ h => h) (Or.inl ⟨by rfl, ?_⟩) ?_ ?_; rotate_left; (focus (intro w'; go_simp; with_reducible rfl)); rotate_left; (focus (simp only [Act.put, List.setIfInBounds_toArray, List.set_cons_zero, List.set_cons_succ, i64_w, i32_w]; rfl))
                                       refine pure_ (i := 55) (N := some 261) (v := ?_) (a' := ?_) Dn66_ rfl rfl (any_of HT_.out (by kernel_rfl)) (fun _ _ _ h => h) (Or.inl ⟨by rfl, ?_⟩) ?_ ?_; rotate_left; (focus (intro w'; go_simp; with_reducible rfl)); rotate_left; (focus (simp only [Act.put, List.setIfInBounds_toArray, List.set_cons_zero, List.set_cons_succ, i64_w, i32_w]; rfl))
                                       refine pure_ (i := 56) (N := some 262) (v := ?_) (a' := ?_) Dn67_ rfl rfl (any_of HT_.out (by kernel_rfl)) (fun _ _ _ h => h) (Or.inl ⟨by rfl, ?_⟩) ?_ ?_; rotate_left; (focus (intro w'; go_simp; with_reducible rfl)); rotate_left; (focus (simp only [Act.put, List.setIfInBounds_toArray, List.set_cons_zero, List.set_cons_succ, i64_w, i32_w]; rfl))
                                       refine pure_ (i := 57) (N := some 263) (v := ?_) (a' := ?_) Dn68_ rfl rfl (any_of HT_.out (by kernel_rfl)) (fun _ _ _ h => h) (Or.inl ⟨by rfl, ?_⟩) ?_ ?_; rotate_left; (focus (intro w'; go_simp; with_reducible rfl)); rotate_left; (focus (simp only [Act.put, List.setIfInBounds_toArray, List.set_cons_zero, List.set_cons_succ, i64_w, i32_w]; rfl))
                                       refine pure_ (i := 58) (N := some 264) (v := ?_) (a' := ?_) Dn69_ rfl rfl (any_of HT_.out (by kernel_rfl)) (fun _ _ _ h => h) (Or.inl ⟨by rfl, ?_⟩) ?_ ?_; rotate_left; (focus (intro w'; go_simp; with_reducible rfl)); rotate_left; (focus (simp only [Act.put, List.setIfInBounds_toArray, List.set_cons_zero, List.set_cons_succ, i64_w, i32_w]; rfl))
                                       refine pure_ (i := 59) (N := some 265) (v := ?_) (a' := ?_) Dn70_ rfl rfl (any_of HT_.out (by kernel_rfl)) (fun _ _ _ h => h) (Or.inl ⟨by rfl, ?_⟩) ?_ ?_; rotate_left; (focus (intro w'; go_simp; with_reducible rfl)); rotate_left; (focus (simp only [Act.put, List.setIfInBounds_toArray, List.set_cons_zero, List.set_cons_succ, i64_w, i32_w]; rfl))
                                       refine pure_ (i := 60) (N := some 266) (v := ?_) (a' := ?_) Dn71_ rfl rfl (any_of HT_.out (by kernel_rfl)) (fun _ _ _ h => h) (Or.inl ⟨by rfl, ?_⟩) ?_ ?_; rotate_left; (focus (intro w'; go_simp; with_reducible rfl)); rotate_left; (focus (simp only [Act.put, List.setIfInBounds_toArray, List.set_cons_zero, List.set_cons_succ, i64_w, i32_w]; rfl))
                                       refine pure_ (i := 61) (N := some 267) (v := ?_) (a' := ?_) Dn72_ rfl rfl (any_of HT_.out (by kernel_rfl)) (fun _ _ _ h => h) (Or.inl ⟨by rfl, ?_⟩) ?_ ?_; rotate_left; (focus (intro w'; go_simp; with_reducible rfl)); rotate_left; (focus (simp only [Act.put, List.setIfInBounds_toArray, List.set_cons_zero, List.set_cons_succ, i64_w, i32_w]; rfl))
                                       refine pure_ (i := 62) (N := some 268) (v := ?_) (a' := ?_) Dn73_ rfl rfl (any_of HT_.out (by kernel_rfl)) (fun _ _ _ h => h) (Or.inl ⟨by rfl, ?_⟩) ?_ ?_; rotate_left; (focus (intro w'; go_simp; with_reducible rfl)); rotate_left; (focus (simp only [Act.put, List.setIfInBounds_toArray, List.set_cons_zero, List.set_cons_succ, i64_w, i32_w]; rfl))
                                       refine pure_ (i := 63) (N := some 269) (v := ?_) (a' := ?_) Dn74_ rfl rfl (any_of HT_.out (by kernel_rfl)) (fun _ _ _ h => h) (Or.inl ⟨by rfl, ?_⟩) ?_ ?_; rotate_left; (focus (intro w'; go_simp; with_reducible rfl)); rotate_left; (focus (simp only [Act.put, List.setIfInBounds_toArray, List.set_cons_zero, List.set_cons_succ, i64_w, i32_w]; rfl))
                                       refine pure_ (i := 64) (N := some 270) (v := ?_) (a' := ?_) Dn75_ rfl rfl (any_of HT_.out (by kernel_rfl)) (fun _ _ _ h => h) (Or.inl ⟨by rfl, ?_⟩) ?_ ?_; rotate_left; (focus (intro w'; go_simp; with_reducible rfl)); rotate_left; (focus (simp only [Act.put, List.setIfInBounds_toArray, List.set_cons_zero, List.set_cons_succ, i64_w, i32_w]; rfl))
                                       refine pure_ (i := 65) (N := some 271) (v := ?_) (a' := ?_) Dn76_ rfl rfl (any_of HT_.out (by kernel_rfl)) (fun _ _ _ h => h) (Or.inl ⟨by rfl, ?_⟩) ?_ ?_; rotate_left; (focus (intro w'; go_simp; with_reducible rfl)); rotate_left; (focus (simp only [Act.put, List.setIfInBounds_toArray, List.set_cons_zero, List.set_cons_succ, i64_w, i32_w]; rfl))
                                       refine pure_ (i := 66) (N := some 272) (v := ?_) (a' := ?_) Dn77_ rfl rfl (any_of HT_.out (by kernel_rfl)) (fun _ _ _ h => h) (Or.inl ⟨by rfl, ?_⟩) ?_ ?_; rotate_left; (focus (intro w'; go_simp; with_reducible rfl)); rotate_left; (focus (simp only [Act.put, List.setIfInBounds_toArray, List.set_cons_zero, List.set_cons_succ, i64_w, i32_w]; rfl))
                                       refine pure_ (i := 67) (N := some 273) (v := ?_) (a' := ?_) Dn78_ rfl rfl (any_of HT_.out (by kernel_rfl)) (fun _ _ _ h => h) (Or.inl ⟨by rfl, ?_⟩) ?_ ?_; rotate_left; (focus (intro w'; go_simp; with_reducible rfl)); rotate_left; (focus (simp only [Act.put, List.setIfInBounds_toArray, List.set_cons_zero, List.set_cons_succ, i64_w, i32_w]; rfl))
                                       refine done_ (done_of HT_.out (by kernel_rfl)) ?_
                                       try go_wp2
                                       (try subst hji36)
                                       go_meet
                                       case rel => exact ⟨_, (((t967.length : Int) != 2)), (by first | rfl | (simp; done) | (simp [*]; done)), H', ⟨by have := HJ9.out; have := HJ15.out; have := HK3.out; have := HK4.out; have := HK5.out; have := HK6.out; first | omega | exact Nat.le_refl _⟩, ⟨by (with_reducible repeat (first | apply Kd.R_alloc | apply Kd.R_drewN | apply Kd.R_drew)); exact Kd.R_mono HO936.out (fun _ hk => ⟨hk.1.1.1.1.1.1, ⟨hk.1.1.1.1.2, ⟨hk.1.1.1.2, ⟨hk.1.1.2, hk.1.2⟩⟩⟩⟩)⟩, ⟨by (with_reducible repeat (first | apply Kd.R_alloc | apply Kd.R_drewN | apply Kd.R_drew)); exact Kd.R_mono HO939.out (fun _ hk => ⟨hk.1.1.1.1.1.1, ⟨hk.1.1.1.1.2, ⟨hk.1.1.1.2, ⟨hk.1.1.2, hk.1.2⟩⟩⟩⟩)⟩, ⟨by (with_reducible repeat (first | apply Kd.R_alloc | apply Kd.R_drewN | apply Kd.R_drew)); exact Kd.R_mono HO945.out (fun _ hk => ⟨hk.1.1.1.1.2, ⟨hk.1.1.1.2, ⟨hk.1.1.1.1.1.1, ⟨hk.1.1.2, hk.1.2⟩⟩⟩⟩)⟩, ⟨by (with_reducible repeat (first | apply Kd.R_alloc | apply Kd.R_drewN | apply Kd.R_drew)); exact Kd.R_mono HO948.out (fun _ hk => ⟨hk.1.1.1.1.2, ⟨hk.1.1.1.2, ⟨hk.1.1.1.1.1.1, ⟨hk.1.1.2, hk.1.2⟩⟩⟩⟩)⟩, ⟨by (with_reducible repeat (first | apply Kd.R_alloc | apply Kd.R_drewN | apply Kd.R_drew)); exact Kd.R_mono HO954.out (fun _ hk => ⟨hk.1.1.1.1.2, ⟨hk.1.1.1.2, ⟨hk.1.1.2, ⟨hk.1.2, hk.1.1.1.1.1.1⟩⟩⟩⟩)⟩, ⟨by (with_reducible repeat (first | apply Kd.R_alloc | apply Kd.R_drewN | apply Kd.R_drew)); exact Kd.R_mono HO957.out (fun _ hk => ⟨hk.1.1.1.1.2, ⟨hk.1.1.1.2, ⟨hk.1.1.2, ⟨hk.1.2, hk.1.1.1.1.1.1⟩⟩⟩⟩)⟩, ⟨by (with_reducible repeat (first | refine blk_drewN ?_ _ | refine blk_drew ?_ | refine blk_alloc ?_ _)); exact BK941.out⟩, ⟨by (with_reducible repeat (first | refine blk_drewN ?_ _ | refine blk_drew ?_ | refine blk_alloc ?_ _)); exact BK950.out⟩, ⟨by (with_reducible repeat (first | refine blk_drewN ?_ _ | refine blk_drew ?_ | refine blk_alloc ?_ _)); exact BK959.out⟩, ⟨by repeat (first | (with_reducible first | exact HB.out | apply below_alloc | apply pw_below_drewN | apply below_drew1 | refine below_set ?_ GE941.out | refine below_set ?_ GE950.out | refine below_set ?_ GE959.out) | exact HB.out)⟩⟩
                                   ·rw [if_neg c123] at H
                                    have c123b0 : (((rd_T64 t966 2).f0).toList == t942.toList) = false := beq_eq_false_iff_ne.mpr c123
                                    have c123b1 : (((rd_T64 t966 2).f0).toList != t942.toList) = true := bne_iff_ne.mpr c123
                                    as_aux_lemma =>
                                     exact absurd (H.trans (congrArg some HQ_.out)) (foghornlaw20_MendOver.j8_no _ _ _ _ _ _ _ _ _ _ _ _ _)
                                  ·rw [if_neg c122] at H
                                   exact absurd H (by simp)
                                 ·rw [if_neg c121] at H
                                  have c121b0 : (((rd_T64 t966 1).f0).toList == t908.toList) = false := beq_eq_false_iff_ne.mpr c121
                                  have c121b1 : (((rd_T64 t966 1).f0).toList != t908.toList) = true := bne_iff_ne.mpr c121
                                  as_aux_lemma =>
                                   exact absurd (H.trans (congrArg some HQ_.out)) (foghornlaw20_MendOver.j8_no _ _ _ _ _ _ _ _ _ _ _ _ _)
                                ·rw [if_neg c120] at H
                                 exact absurd H (by simp)
                               ·rw [if_neg c119] at H
                                have c119b0 : (((rd_T64 t966 0).f0).toList == t933.toList) = false := beq_eq_false_iff_ne.mpr c119
                                have c119b1 : (((rd_T64 t966 0).f0).toList != t933.toList) = true := bne_iff_ne.mpr c119
                                as_aux_lemma =>
                                 exact absurd (H.trans (congrArg some HQ_.out)) (foghornlaw20_MendOver.j8_no _ _ _ _ _ _ _ _ _ _ _ _ _)
                              ·rw [if_neg c118] at H
                               exact absurd H (by simp)
                             ·rw [if_neg c117] at H
                              have c117b0 : (t933.toList == t951.toList) = false := beq_eq_false_iff_ne.mpr c117
                              have c117b1 : (t933.toList != t951.toList) = true := bne_iff_ne.mpr c117
                              as_aux_lemma =>
                               exact absurd (H.trans (congrArg some HQ_.out)) (foghornlaw20_MendOver.j8_no _ _ _ _ _ _ _ _ _ _ _ _ _)
                            ·rw [if_neg c116] at H
                             have c116b0 : ((t966.length : Int) == 3) = false := beq_eq_false_iff_ne.mpr c116
                             have c116b1 : ((t966.length : Int) != 3) = true := bne_iff_ne.mpr c116
                             as_aux_lemma =>
                              exact absurd (H.trans (congrArg some HQ_.out)) (foghornlaw20_MendOver.j8_no _ _ _ _ _ _ _ _ _ _ _ _ _)
                           ·rw [if_neg c115] at H
                            have c115b0 : (t968 == 0) = false := beq_eq_false_iff_ne.mpr c115
                            have c115b1 : (t968 != 0) = true := bne_iff_ne.mpr c115
                            as_aux_lemma =>
                             exact absurd (H.trans (congrArg some HQ_.out)) (foghornlaw20_MendOver.j8_no _ _ _ _ _ _ _ _ _ _ _ _ _)
                          ·rw [if_neg c114] at H
                           have c114b0 : (t940 == t958) = false := beq_eq_false_iff_ne.mpr c114
                           have c114b1 : (t940 != t958) = true := bne_iff_ne.mpr c114
                           as_aux_lemma =>
                            exact absurd (H.trans (congrArg some HQ_.out)) (foghornlaw20_MendOver.j8_no _ _ _ _ _ _ _ _ _ _ _ _ _)
                         ·rw [if_neg c113] at H
                          have c113b0 : (t940 == t949) = false := beq_eq_false_iff_ne.mpr c113
                          have c113b1 : (t940 != t949) = true := bne_iff_ne.mpr c113
                          (first | rw [c113b0] | (simp only [i64_w, i32_w]; rw [c113b0]) | skip)
                          as_aux_lemma =>
                           exact absurd (H.trans (congrArg some HQ_.out)) (foghornlaw20_MendOver.j8_no _ _ _ _ _ _ _ _ _ _ _ _ _)
                        case rest =>
                         clear HC81; (try clear c1); (try clear p2); (try clear c11); (try clear c113); (try clear c113b0); (try clear c113b1)
                         obtain ⟨kq, x273_80, rfl, HA, HJ80, HO_942001, HO_942002, HO_951001, HO_951002, HO_960001, HO_960002, BK941, BK950, BK959, HB⟩ := hcut
                         cases kq with
                         | zero => exact absurd HA.out (by simp [foghornlaw20_MendOver.j8])
                         | succ kj80 =>
                          have H := HA.out; clear HA
                          simp only [foghornlaw20_MendOver.j8] at H
                          by_cases c148 : x273_80 = true
                          ·subst c148
                           have H1 : (some false) = some r := by rw [if_pos rfl] at H; exact H
                           clear H; have H := H1; clear H1
                           as_aux_lemma =>
                            exact absurd ((Option.some.inj H).trans HQ_.out) (by decide)
                          ·replace c148 := Bool.eq_false_iff.mpr c148
                           subst c148
                           have H1 : (if t940 = 0 then (foghornlaw20_MendOver.l6 kj80 t908 t914 0 t933 t934 t937 t942 t943 t946 t951 t952 t955) else (some (t940 == 9))) = some r := by rw [if_neg (show ¬ (false = true) by decide)] at H; exact H
                           clear H; have H := H1; clear H1
                           by_cases c149 : t940 = 0
                           ·rw [if_pos c149] at H
                            have c149b0 : (t940 == 0) = true := beq_iff_eq.mpr c149
                            have c149b1 : (t940 != 0) = false := bne_eq_false_iff_eq.mpr c149
                            clear c149
                            have H' := Aside0.mk H
                            clear H
                            go_wp2
                            go_loopg [35] kj80 (fun kq v35 w' => ∃ (x35_8 : Int), v35 = .int .i64 x35_8 ∧ Aside0 (foghornlaw20_MendOver.l6 kq t908 t914 x35_8 t933 t934 t937 t942 t943 t946 t951 t952 t955 = some r) ∧ Aside0 (kq ≤ kj80) ∧ Aside0 (Kd.R (Kd.int .i64) 3 w' w.heap.size (fun k_ => some k_ ≠ ((.slice Ao88 t937.length co88) : Value).ownBlock ∧ some k_ ≠ ((.slice Ao94 t943.length co94) : Value).ownBlock ∧ some k_ ≠ ((.slice Ao95 t946.length co95) : Value).ownBlock ∧ some k_ ≠ ((.slice Ao102 t952.length co102) : Value).ownBlock ∧ some k_ ≠ ((.slice Ao103 t955.length co103) : Value).ownBlock) (.slice Ao87 t934.length co87) t934) ∧ Aside0 (Kd.R (Kd.int .i64) 3 w' w.heap.size (fun k_ => some k_ ≠ ((.slice Ao87 t934.length co87) : Value).ownBlock ∧ some k_ ≠ ((.slice Ao94 t943.length co94) : Value).ownBlock ∧ some k_ ≠ ((.slice Ao95 t946.length co95) : Value).ownBlock ∧ some k_ ≠ ((.slice Ao102 t952.length co102) : Value).ownBlock ∧ some k_ ≠ ((.slice Ao103 t955.length co103) : Value).ownBlock) (.slice Ao88 t937.length co88) t937) ∧ Aside0 (Kd.R (Kd.int .i64) 3 w' w.heap.size (fun k_ => some k_ ≠ ((.slice Ao87 t934.length co87) : Value).ownBlock ∧ some k_ ≠ ((.slice Ao88 t937.length co88) : Value).ownBlock ∧ some k_ ≠ ((.slice Ao95 t946.length co95) : Value).ownBlock ∧ some k_ ≠ ((.slice Ao102 t952.length co102) : Value).ownBlock ∧ some k_ ≠ ((.slice Ao103 t955.length co103) : Value).ownBlock) (.slice Ao94 t943.length co94) t943) ∧ Aside0 (Kd.R (Kd.int .i64) 3 w' w.heap.size (fun k_ => some k_ ≠ ((.slice Ao87 t934.length co87) : Value).ownBlock ∧ some k_ ≠ ((.slice Ao88 t937.length co88) : Value).ownBlock ∧ some k_ ≠ ((.slice Ao94 t943.length co94) : Value).ownBlock ∧ some k_ ≠ ((.slice Ao102 t952.length co102) : Value).ownBlock ∧ some k_ ≠ ((.slice Ao103 t955.length co103) : Value).ownBlock) (.slice Ao95 t946.length co95) t946) ∧ Aside0 (Kd.R (Kd.int .i64) 3 w' w.heap.size (fun k_ => some k_ ≠ ((.slice Ao87 t934.length co87) : Value).ownBlock ∧ some k_ ≠ ((.slice Ao88 t937.length co88) : Value).ownBlock ∧ some k_ ≠ ((.slice Ao94 t943.length co94) : Value).ownBlock ∧ some k_ ≠ ((.slice Ao95 t946.length co95) : Value).ownBlock ∧ some k_ ≠ ((.slice Ao103 t955.length co103) : Value).ownBlock) (.slice Ao102 t952.length co102) t952) ∧ Aside0 (Kd.R (Kd.int .i64) 3 w' w.heap.size (fun k_ => some k_ ≠ ((.slice Ao87 t934.length co87) : Value).ownBlock ∧ some k_ ≠ ((.slice Ao88 t937.length co88) : Value).ownBlock ∧ some k_ ≠ ((.slice Ao94 t943.length co94) : Value).ownBlock ∧ some k_ ≠ ((.slice Ao95 t946.length co95) : Value).ownBlock ∧ some k_ ≠ ((.slice Ao102 t952.length co102) : Value).ownBlock) (.slice Ao103 t955.length co103) t955) ∧ Aside0 (w'.heap[gb941]? = some (.cells #[.string t933, (.slice Ao87 t934.length co87), (.slice Ao88 t937.length co88)] 64 (0, 0))) ∧ Aside0 (w'.heap[gb950]? = some (.cells #[.string t942, (.slice Ao94 t943.length co94), (.slice Ao95 t946.length co95)] 64 (0, 0))) ∧ Aside0 (w'.heap[gb959]? = some (.cells #[.string t951, (.slice Ao102 t952.length co102), (.slice Ao103 t955.length co103)] 64 (0, 0))) ∧ Aside0 (Below w.heap.size w w'))
                            case atStart => exact ⟨(0), (by first | rfl | (simp; done) | (simp [*]; done)), H', ⟨Nat.le_refl _⟩, ⟨by (with_reducible repeat (first | apply Kd.R_alloc | apply Kd.R_drewN | apply Kd.R_drew)); exact HO_942001.out⟩, ⟨by (with_reducible repeat (first | apply Kd.R_alloc | apply Kd.R_drewN | apply Kd.R_drew)); exact HO_942002.out⟩, ⟨by (with_reducible repeat (first | apply Kd.R_alloc | apply Kd.R_drewN | apply Kd.R_drew)); exact HO_951001.out⟩, ⟨by (with_reducible repeat (first | apply Kd.R_alloc | apply Kd.R_drewN | apply Kd.R_drew)); exact HO_951002.out⟩, ⟨by (with_reducible repeat (first | apply Kd.R_alloc | apply Kd.R_drewN | apply Kd.R_drew)); exact HO_960001.out⟩, ⟨by (with_reducible repeat (first | apply Kd.R_alloc | apply Kd.R_drewN | apply Kd.R_drew)); exact HO_960002.out⟩, ⟨by (with_reducible repeat (first | refine blk_drewN ?_ _ | refine blk_drew ?_ | refine blk_alloc ?_ _)); exact BK941.out⟩, ⟨by (with_reducible repeat (first | refine blk_drewN ?_ _ | refine blk_drew ?_ | refine blk_alloc ?_ _)); exact BK950.out⟩, ⟨by (with_reducible repeat (first | refine blk_drewN ?_ _ | refine blk_drew ?_ | refine blk_alloc ?_ _)); exact BK959.out⟩, ⟨by repeat (first | (with_reducible first | exact HB.out | apply below_alloc | apply pw_below_drewN | apply below_drew1 | refine below_set ?_ GE941.out | refine below_set ?_ GE950.out | refine below_set ?_ GE959.out) | exact HB.out)⟩⟩
                            case round =>
                             clear H'; (try clear c1); (try clear p2); (try clear c11); (try clear c14); (try clear c113); (try clear c113b0); (try clear c113b1); (try clear c148); (try clear c149); (try clear c149b0); (try clear c149b1); (try clear p2)
                             obtain ⟨x35_8, rfl, HA, HK8, HO_942001, HO_942002, HO_951001, HO_951002, HO_960001, HO_960002, BK941, BK950, BK959, HB⟩ := hrel
                             cases gk with
                             | zero => exact absurd HA.out (by simp [foghornlaw20_MendOver.l6])
                             | succ k8 =>
                              have H := HA.out; clear HA
                              simp only [foghornlaw20_MendOver.l6] at H
                              by_cases c150 : x35_8 < (t908.size : Int)
                              ·rw [if_pos c150] at H
                               have c150b0 : decide (x35_8 < (t908.size : Int)) = true := decide_eq_true c150
                               clear c150
                               by_cases c151 : 0 ≤ x35_8
                               ·rw [if_pos c151] at H
                                have c151b0 : decide (0 ≤ x35_8) = true := decide_eq_true c151
                                clear c151
                                by_cases c152 : x35_8 < (t942.size : Int)
                                ·rw [if_pos c152] at H
                                 have c152b0 : decide (x35_8 < (t942.size : Int)) = true := decide_eq_true c152
                                 clear c152
                                 by_cases c154 : x35_8 < (t933.size : Int)
                                 ·rw [if_pos c154] at H
                                  have c154b0 : decide (x35_8 < (t933.size : Int)) = true := decide_eq_true c154
                                  clear c154
                                  by_cases c156 : x35_8 < (t914.size : Int)
                                  ·rw [if_pos c156] at H
                                   have c156b0 : decide (x35_8 < (t914.size : Int)) = true := decide_eq_true c156
                                   clear c156
                                   by_cases c158 : (bt t942 x35_8) = (Go.bits .xor .u8 (bt t933 x35_8) (bt t914 x35_8))
                                   ·rw [if_pos c158] at H
                                    have c158b0 : ((bt t942 x35_8) == (Go.bits .xor .u8 (bt t933 x35_8) (bt t914 x35_8))) = true := beq_iff_eq.mpr c158
                                    have c158b1 : ((bt t942 x35_8) != (Go.bits .xor .u8 (bt t933 x35_8) (bt t914 x35_8))) = false := bne_eq_false_iff_eq.mpr c158
                                    clear c158
                                    as_aux_lemma =>
                                     have H' := Aside0.mk H
                                     clear H
                                     try go_wp2
                                     have n0_ := Aside0.mk (Kd.R_drew HO_942001.out); have n1_ := Aside0.mk (Kd.R_drew HO_942002.out); have n2_ := Aside0.mk (Kd.R_drew HO_951001.out); have n3_ := Aside0.mk (Kd.R_drew HO_951002.out); have n4_ := Aside0.mk (Kd.R_drew HO_960001.out); have n5_ := Aside0.mk (Kd.R_drew HO_960002.out); have n6_ := Aside0.mk (blk_drew BK941.out); have n7_ := Aside0.mk (blk_drew BK950.out); have n8_ := Aside0.mk (blk_drew BK959.out); have n9_ := Aside0.mk (below_drew1 HB.out); clear HO_942001; clear HO_942002; clear HO_951001; clear HO_951002; clear HO_960001; clear HO_960002; clear BK941; clear BK950; clear BK959; clear HB; have HO_942001 := n0_; have HO_942002 := n1_; have HO_951001 := n2_; have HO_951002 := n3_; have HO_960001 := n4_; have HO_960002 := n5_; have BK941 := n6_; have BK950 := n7_; have BK959 := n8_; have HB := n9_; clear n0_ n1_ n2_ n3_ n4_ n5_ n6_ n7_ n8_ n9_
                                     have p153 : 0 ≤ (x35_8 : Int) := of_decide_eq_true (by first | (with_reducible assumption) | assumption)
                                     have q153 : x35_8 < (t942.size : Int) := of_decide_eq_true (by first | (with_reducible assumption) | assumption)
                                     have hx153 := bt_at t942 x35_8; replace p153 := eq_true p153; replace q153 := eq_true q153
                                     have p155 : 0 ≤ (x35_8 : Int) := of_decide_eq_true (by first | (with_reducible assumption) | assumption)
                                     have q155 : x35_8 < (t933.size : Int) := of_decide_eq_true (by first | (with_reducible assumption) | assumption)
                                     have hx155 := bt_at t933 x35_8; replace p155 := eq_true p155; replace q155 := eq_true q155
                                     have p157 : 0 ≤ (x35_8 : Int) := of_decide_eq_true (by first | (with_reducible assumption) | assumption)
                                     have q157 : x35_8 < (t914.size : Int) := of_decide_eq_true (by first | (with_reducible assumption) | assumption)
                                     have hx157 := bt_at t914 x35_8; replace p157 := eq_true p157; replace q157 := eq_true q157
                                     refine start_ (n := 13) (S := fun w' => w'.cell? ⟨gb950, 0, none⟩ = some (.string t942) ∧ w'.cell? ⟨gb950, 1, none⟩ = some (.slice Ao94 t943.length co94) ∧ w'.cell? ⟨gb950, 2, none⟩ = some (.slice Ao95 t946.length co95) ∧ w'.cell? ⟨gb941, 0, none⟩ = some (.string t933) ∧ w'.cell? ⟨gb941, 1, none⟩ = some (.slice Ao87 t934.length co87) ∧ w'.cell? ⟨gb941, 2, none⟩ = some (.slice Ao88 t937.length co88)) (ds := []) #[false, false, false, false, false, false, false, false, false, false, false, false, false] (by kernel_rfl) rfl rfl ⟨(blk_cell BK950.out 0).trans rfl, (blk_cell BK950.out 1).trans rfl, (blk_cell BK950.out 2).trans rfl, (blk_cell BK941.out 0).trans rfl, (blk_cell BK941.out 1).trans rfl, (blk_cell BK941.out 2).trans rfl⟩ (fun hHeld => ?_); refine with_tabW foghornlaw20_MendOver.tab47 foghornlaw20_MendOver.bits47 (fun HT_ HW_ => ?_)
                                     generalize wr.drew = w159 at HO_942001 HO_942002 HO_951001 HO_951002 HO_960001 HO_960002 BK941 BK950 BK959 HB hHeld ⊢
                                     refine pure_ (i := 0) (N := some 284) (v := ?_) (a' := ?_) Dn79_ rfl rfl (any_of HT_.out (by kernel_rfl)) (fun _ _ _ h => h) (Or.inl ⟨by rfl, ?_⟩) ?_ ?_; rotate_left; (focus (intro w'; go_simp; with_reducible rfl)); rotate_left; (focus (simp only [Act.put, List.setIfInBounds_toArray, List.set_cons_zero, List.set_cons_succ, i64_w, i32_w]; rfl))
                                     refine pure_ (i := 2) (N := some 286) (v := ?_) (a' := ?_) Dn80_ rfl rfl (any_of HT_.out (by kernel_rfl)) (fun _ _ _ h => h) (Or.inl ⟨by rfl, ?_⟩) ?_ ?_; rotate_left; (focus (intro w'; go_simp; with_reducible rfl)); rotate_left; (focus (simp only [Act.put, List.setIfInBounds_toArray, List.set_cons_zero, List.set_cons_succ, i64_w, i32_w]; rfl))
                                     refine pure_ (i := 4) (N := some 288) (v := ?_) (a' := ?_) Dn81_ rfl rfl (any_of HT_.out (by kernel_rfl)) (fun _ _ _ h => h) (Or.inl ⟨by rfl, ?_⟩) ?_ ?_; rotate_left; (focus (intro w'; go_simp; with_reducible rfl)); rotate_left; (focus (simp only [Act.put, List.setIfInBounds_toArray, List.set_cons_zero, List.set_cons_succ, i64_w, i32_w]; rfl))
                                     refine pure_ (i := 6) (N := some 290) (v := ?_) (a' := ?_) Dn82_ rfl rfl (any_of HT_.out (by kernel_rfl)) (fun _ _ _ h => h) (Or.inl ⟨by rfl, ?_⟩) ?_ ?_; rotate_left; (focus (intro w'; go_simp; with_reducible rfl)); rotate_left; (focus (simp only [Act.put, List.setIfInBounds_toArray, List.set_cons_zero, List.set_cons_succ, i64_w, i32_w]; rfl))
                                     refine pure_ (i := 8) (N := some 292) (v := ?_) (a' := ?_) Dn83_ rfl rfl (any_of HT_.out (by kernel_rfl)) (fun _ _ _ h => h) (Or.inl ⟨by rfl, ?_⟩) ?_ ?_; rotate_left; (focus (intro w'; go_simp; with_reducible rfl)); rotate_left; (focus (simp only [Act.put, List.setIfInBounds_toArray, List.set_cons_zero, List.set_cons_succ, i64_w, i32_w]; rfl))
                                     refine pure_ (i := 9) (N := some 293) (v := ?_) (a' := ?_) Dn84_ rfl rfl (any_of HT_.out (by kernel_rfl)) (fun _ _ _ h => h) (Or.inl ⟨by rfl, ?_⟩) ?_ ?_; rotate_left; (focus (intro w'; go_simp; with_reducible rfl)); rotate_left; (focus (simp only [Act.put, List.setIfInBounds_toArray, List.set_cons_zero, List.set_cons_succ, i64_w, i32_w]; rfl))
                                     refine take_ (i := 1) (N := some 285) (v := ?_) (a' := ?_) Dn85_ rfl rfl (take_ofW HT_.out HW_.out (by kernel_rfl)) (fun _ _ _ h => h) (Or.inl ⟨by rfl, ?_⟩) hHeld ?_ ?_
                                     rotate_left
                                     ·rintro w' ⟨s0, s1, s2, s3, s4, s5⟩
                                      go_simp
                                      with_reducible rfl
                                     rotate_left
                                     ·simp only [Act.put, List.setIfInBounds_toArray, List.set_cons_zero, List.set_cons_succ, i64_w, i32_w]
                                      rfl
                                     refine take_ (i := 3) (N := some 287) (v := ?_) (a' := ?_) Dn86_ rfl rfl (take_ofW HT_.out HW_.out (by kernel_rfl)) (fun _ _ _ h => h) (Or.inl ⟨by rfl, ?_⟩) hHeld ?_ ?_
                                     rotate_left
                                     ·rintro w' ⟨s0, s1, s2, s3, s4, s5⟩
                                      go_simp
                                      with_reducible rfl
                                     rotate_left
                                     ·simp only [Act.put, List.setIfInBounds_toArray, List.set_cons_zero, List.set_cons_succ, i64_w, i32_w]
                                      rfl
                                     refine take_ (i := 5) (N := some 289) (v := ?_) (a' := ?_) Dn87_ rfl rfl (take_ofW HT_.out HW_.out (by kernel_rfl)) (fun _ _ _ h => h) (Or.inl ⟨by rfl, ?_⟩) hHeld ?_ ?_
                                     rotate_left
                                     ·rintro w' ⟨s0, s1, s2, s3, s4, s5⟩
                                      go_simp
                                      with_reducible rfl
                                     rotate_left
                                     ·simp only [Act.put, List.setIfInBounds_toArray, List.set_cons_zero, List.set_cons_succ, i64_w, i32_w]
                                      rfl
                                     refine take_ (i := 7) (N := some 291) (v := ?_) (a' := ?_) Dn88_ rfl rfl (take_ofW HT_.out HW_.out (by kernel_rfl)) (fun _ _ _ h => h) (Or.inl ⟨by rfl, ?_⟩) hHeld ?_ ?_
                                     rotate_left
                                     ·rintro w' ⟨s0, s1, s2, s3, s4, s5⟩
                                      go_simp
                                      with_reducible rfl
                                     rotate_left
                                     ·simp only [Act.put, List.setIfInBounds_toArray, List.set_cons_zero, List.set_cons_succ, i64_w, i32_w]
                                      rfl
                                     refine take_ (i := 10) (N := some 294) (v := ?_) (a' := ?_) Dn89_ rfl rfl (take_ofW HT_.out HW_.out (by kernel_rfl)) (fun _ _ _ h => h) (Or.inl ⟨by rfl, ?_⟩) hHeld ?_ ?_
                                     rotate_left
                                     ·rintro w' ⟨s0, s1, s2, s3, s4, s5⟩
                                      go_simp
                                      with_reducible rfl
                                     rotate_left
                                     ·simp only [Act.put, List.setIfInBounds_toArray, List.set_cons_zero, List.set_cons_succ, i64_w, i32_w]
                                      rfl
                                     refine pure_ (i := 11) (N := some 295) (v := ?_) (a' := ?_) Dn90_ rfl rfl (any_of HT_.out (by kernel_rfl)) (fun _ _ _ h => h) (Or.inl ⟨by rfl, ?_⟩) ?_ ?_; rotate_left; (focus (intro w'; go_simp; with_reducible rfl)); rotate_left; (focus (simp only [Act.put, List.setIfInBounds_toArray, List.set_cons_zero, List.set_cons_succ, i64_w, i32_w]; rfl))
                                     refine pure_ (i := 12) (N := some 296) (v := ?_) (a' := ?_) Dn91_ rfl rfl (any_of HT_.out (by kernel_rfl)) (fun _ _ _ h => h) (Or.inl ⟨by rfl, ?_⟩) ?_ ?_; rotate_left; (focus (intro w'; go_simp; with_reducible rfl)); rotate_left; (focus (simp only [Act.put, List.setIfInBounds_toArray, List.set_cons_zero, List.set_cons_succ, i64_w, i32_w]; rfl))
                                     refine done_ (done_of HT_.out (by kernel_rfl)) ?_
                                     try go_wp2
                                     first | go_roundg k8 | (simp only [add_plain] at *; go_roundg k8)
                                     case measure => have := HJ9.out; have := HJ15.out; have := HK3.out; have := HK4.out; have := HK5.out; have := HK6.out; have := HJ80.out; have := HK8.out; omega
                                     case rel => exact ⟨(wrap64 (x35_8 + 1)), (by first | rfl | (simp; done) | (simp [*]; done)), H', ⟨by have := HJ9.out; have := HJ15.out; have := HK3.out; have := HK4.out; have := HK5.out; have := HK6.out; have := HJ80.out; have := HK8.out; omega⟩, ⟨by (with_reducible repeat (first | apply Kd.R_alloc | apply Kd.R_drewN | apply Kd.R_drew)); exact HO_942001.out⟩, ⟨by (with_reducible repeat (first | apply Kd.R_alloc | apply Kd.R_drewN | apply Kd.R_drew)); exact HO_942002.out⟩, ⟨by (with_reducible repeat (first | apply Kd.R_alloc | apply Kd.R_drewN | apply Kd.R_drew)); exact HO_951001.out⟩, ⟨by (with_reducible repeat (first | apply Kd.R_alloc | apply Kd.R_drewN | apply Kd.R_drew)); exact HO_951002.out⟩, ⟨by (with_reducible repeat (first | apply Kd.R_alloc | apply Kd.R_drewN | apply Kd.R_drew)); exact HO_960001.out⟩, ⟨by (with_reducible repeat (first | apply Kd.R_alloc | apply Kd.R_drewN | apply Kd.R_drew)); exact HO_960002.out⟩, ⟨by (with_reducible repeat (first | refine blk_drewN ?_ _ | refine blk_drew ?_ | refine blk_alloc ?_ _)); exact BK941.out⟩, ⟨by (with_reducible repeat (first | refine blk_drewN ?_ _ | refine blk_drew ?_ | refine blk_alloc ?_ _)); exact BK950.out⟩, ⟨by (with_reducible repeat (first | refine blk_drewN ?_ _ | refine blk_drew ?_ | refine blk_alloc ?_ _)); exact BK959.out⟩, ⟨by repeat (first | (with_reducible first | exact HB.out | apply below_alloc | apply pw_below_drewN | apply below_drew1 | refine below_set ?_ GE941.out | refine below_set ?_ GE950.out | refine below_set ?_ GE959.out) | exact HB.out)⟩⟩
                                   ·rw [if_neg c158] at H
                                    have c158b0 : ((bt t942 x35_8) == (Go.bits .xor .u8 (bt t933 x35_8) (bt t914 x35_8))) = false := beq_eq_false_iff_ne.mpr c158
                                    have c158b1 : ((bt t942 x35_8) != (Go.bits .xor .u8 (bt t933 x35_8) (bt t914 x35_8))) = true := bne_iff_ne.mpr c158
                                    as_aux_lemma =>
                                     exact absurd ((Option.some.inj H).trans HQ_.out) (by decide)
                                  ·rw [if_neg c156] at H
                                   exact absurd H (by simp)
                                 ·rw [if_neg c154] at H
                                  exact absurd H (by simp)
                                ·rw [if_neg c152] at H
                                 exact absurd H (by simp)
                               ·rw [if_neg c151] at H
                                exact absurd H (by simp)
                              ·rw [if_neg c150] at H
                               have c150b0 : decide (x35_8 < (t908.size : Int)) = false := decide_eq_false c150
                               clear c150; replace H := Option.bind_eq_some_iff.mp H
                               obtain ⟨t976, A1600, H⟩ := H
                               replace H : (if t976 = true then ((foghornref20_Numbers.f k8 t952 t934).bind fun t977 => (some t977)) else (some false)) = some r := H
                               have A160 := Aside0.mk A1600; clear A1600
                               by_cases c161 : t976 = true
                               ·subst c161
                                have H1 : ((foghornref20_Numbers.f k8 t952 t934).bind fun t977 => (some t977)) = some r := by rw [if_pos rfl] at H; exact H
                                clear H; have H := H1; clear H1; replace H := Option.bind_eq_some_iff.mp H
                                obtain ⟨t977, A1620, H⟩ := H
                                replace H : (some t977) = some r := H
                                have A162 := Aside0.mk A1620; clear A1620
                                as_aux_lemma =>
                                 obtain rfl := Option.some.inj H
                                 have hnb163 := NB950_941.out; have hnc163 := NB941_950.out; have hnb164 := NB950_959.out; have hnc164 := NB959_950.out
                                 have hcz165_0 : wr.cell? ⟨gb950, 0, none⟩ = some (.string t942) := (blk_cell BK950.out 0).trans rfl
                                 have hcz165_1 : wr.cell? ⟨gb950, 1, none⟩ = some (.slice Ao94 t943.length co94) := (blk_cell BK950.out 1).trans rfl
                                 have hcz165_2 : wr.cell? ⟨gb950, 2, none⟩ = some (.slice Ao95 t946.length co95) := (blk_cell BK950.out 2).trans rfl
                                 have hfz165_0 := blk_frozen BK950.out 0; have hfz165_1 := blk_frozen BK950.out 1; have hfz165_2 := blk_frozen BK950.out 2; have hnb166 := NB941_959.out; have hnc166 := NB959_941.out
                                 have hcz167_0 : wr.cell? ⟨gb941, 0, none⟩ = some (.string t933) := (blk_cell BK941.out 0).trans rfl
                                 have hcz167_1 : wr.cell? ⟨gb941, 1, none⟩ = some (.slice Ao87 t934.length co87) := (blk_cell BK941.out 1).trans rfl
                                 have hcz167_2 : wr.cell? ⟨gb941, 2, none⟩ = some (.slice Ao88 t937.length co88) := (blk_cell BK941.out 2).trans rfl
                                 have hfz167_0 := blk_frozen BK941.out 0; have hfz167_1 := blk_frozen BK941.out 1; have hfz167_2 := blk_frozen BK941.out 2
                                 go_wp2_with (first | ((with_reducible refine gate_callee (f := 52) rfl ?_); refine goesL_ (some 301) rfl rfl Try.func52 (by kernel_rfl) rfl #[.slice Ao94 t943.length co94, .slice Ao87 t934.length co87] rfl (by (try simp only [List.map_toArray, List.map_cons, List.map_nil]); first | done | rfl | (simp only [List.length_drop, List.length_take]; rfl)) ?_; (with_reducible refine (foghornref20_Numbers.calls k8 _ _ t943 _ _ t934 true _ ?side1 ?side2 ?side3 ?side4 A160.out).mono ?_); (case side1 => repeat (first | exact (Kd.R_reads' HO_951001.out).2.2 | (with_reducible refine Kd.C_alloc ?_ _) | (with_reducible refine Kd.C_drewN ?_ _) | (with_reducible refine Kd.C_drew ?_))); (case side2 => exact (Kd.R_reads' HO_951001.out).2.1); (case side3 => repeat (first | exact (Kd.R_reads' HO_942001.out).2.2 | (with_reducible refine Kd.C_alloc ?_ _) | (with_reducible refine Kd.C_drewN ?_ _) | (with_reducible refine Kd.C_drew ?_))); (case side4 => exact (Kd.R_reads' HO_942001.out).2.1); rintro e w' ⟨rfl, ⟨nd, rfl⟩⟩; refine ⟨_, rfl, ?_⟩; have hcz168_0 : wr.cell? ⟨gb959, 0, none⟩ = some (.string t951) := (blk_cell BK959.out 0).trans rfl; have hcz168_1 : wr.cell? ⟨gb959, 1, none⟩ = some (.slice Ao102 t952.length co102) := (blk_cell BK959.out 1).trans rfl; have hcz168_2 : wr.cell? ⟨gb959, 2, none⟩ = some (.slice Ao103 t955.length co103) := (blk_cell BK959.out 2).trans rfl; have hfz168_0 := blk_frozen BK959.out 0; have hfz168_1 := blk_frozen BK959.out 1; have hfz168_2 := blk_frozen BK959.out 2) | (go_at_call 52; (with_reducible refine (foghornref20_Numbers.calls k8 _ _ t952 _ _ t934 t977 _ ?side1 ?side2 ?side3 ?side4 A162.out).mono ?_); (case side1 => repeat (first | exact (Kd.R_reads' HO_960001.out).2.2 | (with_reducible refine Kd.C_alloc ?_ _) | (with_reducible refine Kd.C_drewN ?_ _) | (with_reducible refine Kd.C_drew ?_))); (case side2 => exact (Kd.R_reads' HO_960001.out).2.1); (case side3 => repeat (first | exact (Kd.R_reads' HO_942001.out).2.2 | (with_reducible refine Kd.C_alloc ?_ _) | (with_reducible refine Kd.C_drewN ?_ _) | (with_reducible refine Kd.C_drew ?_))); (case side4 => exact (Kd.R_reads' HO_942001.out).2.1); rintro e w' ⟨rfl, ⟨nd, rfl⟩⟩))
                                 go_ret
                                 exact ⟨by first | rfl | (simp [errW_none, errW_some] <;> rfl) | (simp only [← hji36]; first | rfl | (simp [errW_none, errW_some] <;> rfl)) | (simp [*, errW_none, errW_some] <;> rfl), by repeat (first | (with_reducible first | exact HB.out | apply below_alloc | apply pw_below_drewN | apply below_drew1 | refine below_set ?_ GE941.out | refine below_set ?_ GE950.out | refine below_set ?_ GE959.out) | exact HB.out)⟩
                               ·replace c161 := Bool.eq_false_iff.mpr c161
                                subst c161
                                have H1 : (some false) = some r := by rw [if_neg (show ¬ (false = true) by decide)] at H; exact H
                                clear H; have H := H1; clear H1
                                as_aux_lemma =>
                                 exact absurd ((Option.some.inj H).trans HQ_.out) (by decide)
                           ·rw [if_neg c149] at H
                            have c149b0 : (t940 == 0) = false := beq_eq_false_iff_ne.mpr c149
                            have c149b1 : (t940 != 0) = true := bne_iff_ne.mpr c149
                            as_aux_lemma =>
                             obtain rfl := Option.some.inj H
                             go_wp2
                             go_ret
                             exact ⟨by first | rfl | (simp [errW_none, errW_some] <;> rfl) | (simp only [← hji36]; first | rfl | (simp [errW_none, errW_some] <;> rfl)) | (simp [*, errW_none, errW_some] <;> rfl), by repeat (first | (with_reducible first | exact HB.out | apply below_alloc | apply pw_below_drewN | apply below_drew1 | refine below_set ?_ GE941.out | refine below_set ?_ GE950.out | refine below_set ?_ GE959.out) | exact HB.out)⟩
                 ·rw [if_neg c42] at H
                  exact absurd H (by simp)
                ·rw [if_neg c41] at H
                 exact absurd H (by simp)
               ·rw [if_neg c40] at H
                exact absurd H (by simp)
              ·rw [if_neg c38] at H
               exact absurd H (by simp)
             ·rw [if_neg c37] at H
              exact absurd H (by simp)
      ·rw [if_neg c18] at H
       exact absurd H (by simp)
 ·replace c8 := Bool.eq_false_iff.mpr c8
  subst c8
  have H1 : (some false) = some r := by rw [if_neg (show ¬ (false = true) by decide)] at H; exact H
  clear H; have H := H1; clear H1
  as_aux_lemma =>
   exact absurd ((Option.some.inj H).trans HQ_.out) (by decide)
theorem foghornlaw20_MendOver.walk (P : foghornlaw20_MendOver.Pure) (a0 : ByteArray) (a1 : ByteArray) (a2 : Int) (a3 : ByteArray) (a4 : Option Addr) (len4 cap4 : Nat) (z4 : List Int) (a5 : Int) (w : World) (w0 : a0.size ≤ 140737488351232) (w1 : a1.size ≤ 140737488351232) (w2 : (Lit.int .i64 a2).wf = true) (w3 : a3.size ≤ 140737488351232) (w4 : (a4 = none ∧ len4 = 0 ∧ cap4 = 0 ∧ z4 = []) ∨ ∃ x, a4 = some x ∧ len4 ≤ cap4 ∧ cap4 ≤ maxLen ∧ z4.length = cap4 ∧ (∀ i, i < z4.length → w.cell? (x.add i) = some (.int .i64 (z4.getD i 0))) ∧ ∀ n ∈ z4, (Lit.int .i64 n).wf = true) (y4 : len4 * 8 ≤ 140737488351232) (w5 : (Lit.int .u8 a5).wf = true) :
  Calls Try.prog 13 #[.string a0, .string a1, .int .i64 a2, .string a3, .slice a4 len4 cap4, .int .u8 a5] w fun e w' => e = .returned (.bool true) ∧ Below w.heap.size w w' := by
 obtain ⟨l4, rfl, hr4, hm4, hw4, hc4⟩ := ReadsInt.ofRowC w4
 obtain ⟨k, h⟩ := P a0 a1 a2 a3 l4 a5 w0 w1 w2 w3 hm4 y4 hw4 w5
 refine (foghornlaw20_MendOver.calls k a0 a1 a2 a3 _ _ l4 a5 true w (Kd.C_of_reads (d := (0 : Int)) (h1 := fun _ => rfl) hr4) hc4 h rfl).mono ?_
 rintro e w' ⟨rfl, hd⟩
 exact ⟨rfl, hd⟩
end Go.Proofs.Ytncoakokdajibaa.Q
