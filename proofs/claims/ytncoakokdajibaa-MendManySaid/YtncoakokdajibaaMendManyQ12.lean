import Derived.Test.YtncoakokdajibaaMendManyStepW
import Derived.Test.YtncoakokdajibaaMendManyK0
import Derived.Test.YtncoakokdajibaaMendManyF1
import Derived.Test.YtncoakokdajibaaMendManyQ3
import Derived.Test.YtncoakokdajibaaMendManyQ9
import Derived.Test.YtncoakokdajibaaMendManyQ10
import Derived.Test.YtncoakokdajibaaMendManyQ11
-- Printed by myprint.py (ours) over the kit's printer, out of the translation.
namespace Go.Proofs.Ytncoakokdajibaa.Q
open Go.RowKit Go.Proofs.YtncoakokdajibaaW.PrintWords Go.Proofs.YtncoakokdajibaaW.PrintLast Go.Proofs.YtncoakokdajibaaW.PrintMore
attribute [local go_sem] ArrW.ptrOf_slice unary_neg_float unary_neg_complex run_store_float run_store_complex max2_int min2_int max_two min_two max_three min_three max_four min_four   -- for this text's walks alone
set_option linter.unusedVariables false
set_option linter.unusedSimpArgs false
--WALK
def T12m0_ : Array Bool := (List.replicate 1 true ++ List.replicate 9 false).toArray
def T12m1_ : Array Bool := (List.replicate 2 true ++ List.replicate 8 false).toArray
def T12m2_ : Array Bool := (List.replicate 1 true ++ List.replicate 26 false).toArray
def T12m3_ : Array Bool := (List.replicate 2 true ++ List.replicate 25 false).toArray
def T12m4_ : Array Bool := (List.replicate 3 true ++ List.replicate 24 false).toArray
def T12m5_ : Array Bool := (List.replicate 4 true ++ List.replicate 23 false).toArray
def T12m6_ : Array Bool := (List.replicate 5 true ++ List.replicate 22 false).toArray
def T12m7_ : Array Bool := (List.replicate 6 true ++ List.replicate 21 false).toArray
def T12m8_ : Array Bool := (List.replicate 7 true ++ List.replicate 20 false).toArray
def T12m9_ : Array Bool := (List.replicate 7 true ++ List.replicate 1 false ++ List.replicate 1 true ++ List.replicate 18 false).toArray
def T12m10_ : Array Bool := (List.replicate 7 true ++ List.replicate 1 false ++ List.replicate 2 true ++ List.replicate 17 false).toArray
def T12m11_ : Array Bool := (List.replicate 7 true ++ List.replicate 1 false ++ List.replicate 3 true ++ List.replicate 16 false).toArray
def T12m12_ : Array Bool := (List.replicate 11 true ++ List.replicate 16 false).toArray
def T12m13_ : Array Bool := (List.replicate 12 true ++ List.replicate 15 false).toArray
def T12m14_ : Array Bool := (List.replicate 14 true ++ List.replicate 13 false).toArray
def T12m15_ : Array Bool := (List.replicate 15 true ++ List.replicate 12 false).toArray
def T12m16_ : Array Bool := (List.replicate 16 true ++ List.replicate 11 false).toArray
def T12m17_ : Array Bool := (List.replicate 17 true ++ List.replicate 10 false).toArray
def T12m18_ : Array Bool := (List.replicate 18 true ++ List.replicate 9 false).toArray
def T12m19_ : Array Bool := (List.replicate 19 true ++ List.replicate 8 false).toArray
def T12m20_ : Array Bool := (List.replicate 19 true ++ List.replicate 1 false ++ List.replicate 1 true ++ List.replicate 6 false).toArray
def T12m21_ : Array Bool := (List.replicate 19 true ++ List.replicate 1 false ++ List.replicate 2 true ++ List.replicate 5 false).toArray
def T12m22_ : Array Bool := (List.replicate 19 true ++ List.replicate 1 false ++ List.replicate 3 true ++ List.replicate 4 false).toArray
def T12m23_ : Array Bool := (List.replicate 23 true ++ List.replicate 4 false).toArray
def T12m24_ : Array Bool := (List.replicate 24 true ++ List.replicate 3 false).toArray
def T12m25_ : Array Bool := (List.replicate 26 true ++ List.replicate 1 false).toArray
def T12m26_ : Array Bool := (List.replicate 27 true).toArray
def T12m27_ : Array Bool := (List.replicate 8 true ++ List.replicate 19 false).toArray
def T12m28_ : Array Bool := (List.replicate 9 true ++ List.replicate 18 false).toArray
def T12m29_ : Array Bool := (List.replicate 10 true ++ List.replicate 17 false).toArray
def T12m30_ : Array Bool := (List.replicate 13 true ++ List.replicate 14 false).toArray
def T12m31_ : Array Bool := (List.replicate 1 true ++ List.replicate 30 false).toArray
def T12m32_ : Array Bool := (List.replicate 2 true ++ List.replicate 29 false).toArray
def T12m33_ : Array Bool := (List.replicate 3 true ++ List.replicate 28 false).toArray
def T12m34_ : Array Bool := (List.replicate 3 true ++ List.replicate 1 false ++ List.replicate 1 true ++ List.replicate 26 false).toArray
def T12m35_ : Array Bool := (List.replicate 3 true ++ List.replicate 1 false ++ List.replicate 2 true ++ List.replicate 25 false).toArray
def T12m36_ : Array Bool := (List.replicate 3 true ++ List.replicate 1 false ++ List.replicate 3 true ++ List.replicate 24 false).toArray
def T12m37_ : Array Bool := (List.replicate 7 true ++ List.replicate 24 false).toArray
def T12m38_ : Array Bool := (List.replicate 8 true ++ List.replicate 23 false).toArray
def T12m39_ : Array Bool := (List.replicate 10 true ++ List.replicate 21 false).toArray
def T12m40_ : Array Bool := (List.replicate 11 true ++ List.replicate 20 false).toArray
def T12m41_ : Array Bool := (List.replicate 12 true ++ List.replicate 19 false).toArray
def T12m42_ : Array Bool := (List.replicate 13 true ++ List.replicate 18 false).toArray
def T12m43_ : Array Bool := (List.replicate 14 true ++ List.replicate 17 false).toArray
def T12m44_ : Array Bool := (List.replicate 14 true ++ List.replicate 1 false ++ List.replicate 1 true ++ List.replicate 15 false).toArray
def T12m45_ : Array Bool := (List.replicate 14 true ++ List.replicate 1 false ++ List.replicate 2 true ++ List.replicate 14 false).toArray
def T12m46_ : Array Bool := (List.replicate 14 true ++ List.replicate 1 false ++ List.replicate 3 true ++ List.replicate 13 false).toArray
def T12m47_ : Array Bool := (List.replicate 14 true ++ List.replicate 1 false ++ List.replicate 3 true ++ List.replicate 4 false ++ List.replicate 1 true ++ List.replicate 8 false).toArray
def T12m48_ : Array Bool := (List.replicate 14 true ++ List.replicate 1 false ++ List.replicate 3 true ++ List.replicate 4 false ++ List.replicate 2 true ++ List.replicate 7 false).toArray
def T12m49_ : Array Bool := (List.replicate 14 true ++ List.replicate 1 false ++ List.replicate 3 true ++ List.replicate 4 false ++ List.replicate 3 true ++ List.replicate 6 false).toArray
def T12m50_ : Array Bool := (List.replicate 18 true ++ List.replicate 4 false ++ List.replicate 3 true ++ List.replicate 6 false).toArray
def T12m51_ : Array Bool := (List.replicate 19 true ++ List.replicate 3 false ++ List.replicate 3 true ++ List.replicate 6 false).toArray
def T12m52_ : Array Bool := (List.replicate 20 true ++ List.replicate 2 false ++ List.replicate 3 true ++ List.replicate 6 false).toArray
def T12m53_ : Array Bool := (List.replicate 21 true ++ List.replicate 1 false ++ List.replicate 3 true ++ List.replicate 6 false).toArray
def T12m54_ : Array Bool := (List.replicate 25 true ++ List.replicate 6 false).toArray
def T12m55_ : Array Bool := (List.replicate 26 true ++ List.replicate 5 false).toArray
def T12m56_ : Array Bool := (List.replicate 27 true ++ List.replicate 4 false).toArray
def T12m57_ : Array Bool := (List.replicate 28 true ++ List.replicate 3 false).toArray
def T12m58_ : Array Bool := (List.replicate 29 true ++ List.replicate 2 false).toArray
def T12m59_ : Array Bool := (List.replicate 30 true ++ List.replicate 1 false).toArray
def T12m60_ : Array Bool := (List.replicate 31 true).toArray
theorem mq_numbers (l : List Int) (hl : l.length ≤ 9223372036854775806) : ∀ (d i : Nat), i + d = l.length → foghornref20_Numbers.l0 (d + 1) l l (i : Int) = some true
 | 0, i, h => by rw [foghornref20_Numbers.l0, if_neg (by omega)]
 | d + 1, i, h => by
  have hw : wrap64 ((i : Int) + 1) = ((i + 1 : Nat) : Int) := by unfold wrap64; omega
  rw [foghornref20_Numbers.l0, if_pos (by omega), if_pos (by omega), if_pos (by omega), if_pos rfl, hw]
  exact mq_numbers l hl d (i + 1) (by omega)
theorem mq_numbers_ex (l : List Int) (hl : l.length ≤ 9223372036854775806) (m : Nat) (hm : l.length < m) : foghornref20_Numbers.f m l l = some true := by
 have h0 := mq_numbers l hl l.length 0 (Nat.zero_add _)
 have h1 : ∀ d, foghornref20_Numbers.f (l.length + 1 + d) l l = some true := fun d => by
  induction d with
  | zero => rw [foghornref20_Numbers.f, if_pos rfl]; exact h0
  | succ d ih => exact foghornref20_Numbers.mono _ _ _ _ ih
 have := h1 (m - (l.length + 1))
 rwa [show l.length + 1 + (m - (l.length + 1)) = m by omega] at this
theorem mq_alike (s : ByteArray) (P Q : List Int) (hP : P.length ≤ 1000) (hQ : Q.length ≤ 1000) : foghornlaw20_alike.f 2000 s P Q s P Q = some true := by
 rw [foghornlaw20_alike.f, if_pos rfl, mq_numbers_ex P (by omega) 2000 (by omega), Option.bind_some, if_pos rfl, mq_numbers_ex Q (by omega) 2000 (by omega)]
 rfl
theorem mq_spoil2 (s : ByteArray) : ∀ (d : Nat) (i : Nat) (P Q : List Int), i + d = 20 → P.length ≤ 1000 + i → Q.length ≤ 1000 + i → foghornlaw20_spoil.l2 (d + 1) (i : Int) s P Q = some ()
 | 0, i, P, Q, h, hP, hQ => by rw [foghornlaw20_spoil.l2, if_neg (by omega)]
 | d + 1, i, P, Q, h, hP, hQ => by
  have hw : wrap64 ((i : Int) + 1) = ((i + 1 : Nat) : Int) := by unfold wrap64; omega
  rw [foghornlaw20_spoil.l2, if_pos (by omega), if_pos (by omega), if_pos (by omega), hw]
  exact mq_spoil2 s d (i + 1) _ _ (by omega) (by rw [List.length_append, List.length_singleton]; omega) (by rw [List.length_append, List.length_singleton]; omega)
theorem mq_spoil1 (s : ByteArray) (P : List Int) (hP : P.length ≤ 1000) : ∀ (d : Nat) (i : Nat) (Q : List Int), i + d = Q.length → Q.length ≤ 1000 → foghornlaw20_spoil.l1 (d + 22) (i : Int) s P Q = some ()
 | 0, i, Q, h, hQ => by
  rw [foghornlaw20_spoil.l1, if_neg (by omega)]
  exact mq_spoil2 s 20 0 P Q (by omega) (by omega) (by omega)
 | d + 1, i, Q, h, hQ => by
  have hw : wrap64 ((i : Int) + 1) = ((i + 1 : Nat) : Int) := by unfold wrap64; omega
  rw [show d + 1 + 22 = (d + 22) + 1 by omega, foghornlaw20_spoil.l1, if_pos (by omega), if_pos (by omega), hw]
  exact mq_spoil1 s P hP d (i + 1) _ (by rw [List.length_set]; omega) (by rw [List.length_set]; exact hQ)
theorem mq_spoil0 (s : ByteArray) (Q : List Int) (hQ : Q.length ≤ 1000) : ∀ (d : Nat) (i : Nat) (P : List Int), i + d = P.length → P.length ≤ 1000 → foghornlaw20_spoil.l0 (d + (Q.length + 22) + 1) (i : Int) s P Q = some ()
 | 0, i, P, h, hP => by
  rw [foghornlaw20_spoil.l0, if_neg (by omega), Nat.zero_add]
  exact mq_spoil1 s P hP Q.length 0 Q (by omega) hQ
 | d + 1, i, P, h, hP => by
  have hw : wrap64 ((i : Int) + 1) = ((i + 1 : Nat) : Int) := by unfold wrap64; omega
  rw [show d + 1 + (Q.length + 22) + 1 = (d + (Q.length + 22) + 1) + 1 by omega, foghornlaw20_spoil.l0, if_pos (by omega), if_pos (by omega), hw]
  exact mq_spoil0 s Q hQ d (i + 1) _ (by rw [List.length_set]; omega) (by rw [List.length_set]; exact hP)
theorem mq_spoil (s : ByteArray) (P Q : List Int) (hP : P.length ≤ 1000) (hQ : Q.length ≤ 1000) : ∃ k, foghornlaw20_spoil.f k s P Q = some () :=
 ⟨P.length + (Q.length + 22) + 1, by rw [foghornlaw20_spoil.f]; exact mq_spoil0 s Q hQ P.length 0 P (by omega) hP⟩
def ku : Kd (List Int) where
 sz := 1
 E := [3]
 K := (Kd.slice 3 (Kd.int .i64)).K
 M := fun w base ok xs cs => ∃ v, cs = [v] ∧ Kd.U ((Kd.int .i64), 987) 3 w base ok v xs
 K_len := (Kd.slice 3 (Kd.int .i64)).K_len
 K_one := (Kd.slice 3 (Kd.int .i64)).K_one
 K_below := (Kd.slice 3 (Kd.int .i64)).K_below
 K_of_M := by
  rintro w base ok x cs ⟨v, rfl, h⟩
  exact (Kd.slice 3 (Kd.int .i64)).K_of_M ⟨v, rfl, by obtain ⟨A, c, rfl⟩ := Kd.U_slice h; exact Kd.U_R h⟩
 M_mono := by
  rintro w base ok ok' x cs hok ⟨v, rfl, h⟩
  exact ⟨v, rfl, Kd.U_mono h hok⟩
 M_bound := by
  rintro w base ok x cs ⟨v, rfl, A, c, rfl, h⟩
  exact ⟨_, rfl, A, c, rfl, Kd.R_bound h⟩
 M_move := by
  rintro w w1 base ok x cs hm ⟨v, rfl, A, c, rfl, h⟩
  exact ⟨_, rfl, A, c, rfl, Kd.R_move h hm⟩
 M_lower := by
  rintro w base base' ok x cs hb ⟨v, rfl, h⟩
  exact ⟨v, rfl, Kd.U_lower h hb⟩
def ko64 : Kd (Option S64) where
 sz := 3
 E := [3, 3]
 K := fun w x cs => match x with | some y => k64.K w y cs | none => cs.length = 3 ∧ ∀ u ∈ cs, u.oneCell' = true
 M := fun w base ok x cs => match x with | some y => kx64.M w base ok y cs | none => cs.length = 3 ∧ ∀ u ∈ cs, u.oneCell' = true
 K_len := by
  intro w x cs h
  cases x with
  | none => exact h.1
  | some y => exact k64.K_len h
 K_one := by
  intro w x cs h
  cases x with
  | none => exact h.2
  | some y => exact k64.K_one h
 K_below := by
  intro w w1 x cs hb h
  cases x with
  | none => exact h
  | some y => exact k64.K_below hb h
 K_of_M := by
  intro w base ok x cs h
  cases x with
  | none => exact h
  | some y => exact kx64.K_of_M h
 M_mono := by
  intro w base ok ok' x cs hok h
  cases x with
  | none => exact h
  | some y => exact kx64.M_mono hok h
 M_bound := by
  intro w base ok x cs h
  cases x with
  | none => exact h
  | some y => exact kx64.M_bound h
 M_move := by
  intro w w1 base ok x cs hm h
  cases x with
  | none => exact h
  | some y => exact kx64.M_move hm h
 M_lower := by
  intro w base base' ok x cs hb h
  cases x with
  | none => exact h
  | some y => exact kx64.M_lower hb h
def mkB : ByteArray := { data := #[109, 97, 114, 107] }
def mq_P (w w' : World) (N0 : Nat) (l0 : List ByteArray) (Ai : Option Addr) (ci : Nat) (v9 : Value) (ps : List (List Int)) : Prop :=
 w.heap.size ≤ N0 ∧ N0 ≤ w'.heap.size ∧ Kd.U (Kd.string, mkB) 9 w' w.heap.size (fun k_ => k_ < N0) (.slice Ai l0.length ci) l0 ∧ Kd.S ku 60 w' w.heap.size (fun k_ => N0 ≤ k_) v9 ps ∧ Below w.heap.size w w'
def mq_L (A1 : List S64) (i : Nat) : List (Option S64) := (List.range A1.length).map (fun j => if j < i then none else A1[j]?)
theorem mq_L_len (A1 : List S64) (i : Nat) : (mq_L A1 i).length = A1.length := by unfold mq_L; rw [List.length_map, List.length_range]
theorem mq_L_at (A1 : List S64) (i j : Nat) (hj : j < A1.length) : (mq_L A1 i)[j]? = some (if j < i then none else A1[j]?) := by
 unfold mq_L
 rw [List.getElem?_map, List.getElem?_range hj]
 rfl
theorem mq_L_zero (A1 : List S64) : mq_L A1 0 = A1.map some := by
 apply List.ext_getElem?
 intro j
 by_cases h : j < A1.length
 ·rw [mq_L_at A1 0 j h, if_neg (by omega), List.getElem?_map, List.getElem?_eq_getElem h]
  rfl
 ·rw [List.getElem?_eq_none (by rw [mq_L_len]; omega), List.getElem?_eq_none (by rw [List.length_map]; omega)]
theorem mq_L_set (A1 : List S64) (i : Nat) (hi : i < A1.length) : (mq_L A1 i).set i none = mq_L A1 (i + 1) := by
 apply List.ext_getElem?
 intro j
 by_cases h : j < A1.length
 ·rw [mq_L_at A1 (i + 1) j h, List.getElem?_set]
  by_cases e : i = j
  ·rw [if_pos e, if_pos (by rw [mq_L_len]; omega), if_pos (by omega)]
  ·rw [if_neg e, mq_L_at A1 i j h]
   by_cases e2 : j < i
   ·rw [if_pos e2, if_pos (by omega)]
   ·rw [if_neg e2, if_neg (by omega)]
 ·rw [List.getElem?_eq_none (by rw [List.length_set, mq_L_len]; omega), List.getElem?_eq_none (by rw [mq_L_len]; omega)]
theorem mq_at {W : World} {base n c : Nat} {ok : Nat → Prop} {A : Option Addr} {xs : List (Option S64)} (h : Kd.S ko64 64 W base ok (.slice A n c) xs) (i : Nat) (x : S64) (hx : xs[i]? = some (some x)) :
  ∃ ad B1 d1 B2 d2, A = some ad ∧ W.cell? (ad.add (i * 3)) = some (.string x.f0) ∧ W.cell? ⟨(ad.add (i * 3)).block, (ad.add (i * 3)).off + 1, none⟩ = some (.slice B1 x.f1.length d1) ∧ W.cell? ⟨(ad.add (i * 3)).block, (ad.add (i * 3)).off + 2, none⟩ = some (.slice B2 x.f2.length d2) ∧ x.f1.length ≤ d1 ∧ (Kd.int .i64).C W B1 x.f1.length x.f1 ∧ x.f2.length ≤ d2 ∧ (Kd.int .i64).C W B2 x.f2.length x.f2 := by
 have hi : i < xs.length := by
  refine Decidable.byContradiction (fun hc => ?_)
  rw [List.getElem?_eq_none (by omega)] at hx
  cases hx
 obtain ⟨hn, _, hC⟩ := Kd.S_reads' h
 obtain ⟨ad, c1, e, _, hK, hc0⟩ := Kd.C_get hC none (i : Int) (by omega) (by omega)
 rw [Int.toNat_natCast, List.getD_eq_getElem?_getD, hx] at hK
 have hc : ∀ j u, c1[j]? = some u → W.cell? (ad.add (i * 3 + j)) = some u := hc0
 obtain ⟨B1, d1, B2, d2, rfl, l1, g1, l2, g2⟩ := k64_open (show k64.K W x c1 from hK)
 exact ⟨ad, B1, d1, B2, d2, e, hc 0 _ rfl, by rw [← add_field _ _ 1 (by omega)]; exact hc 1 _ rfl, by rw [← add_field _ _ 2 (by omega)]; exact hc 2 _ rfl, l1, g1, l2, g2⟩
structure mq_Z (w W : World) (N0 N1 N2 N3 N4 : Nat) (l0 : List ByteArray) (l2 : List (List Int)) (W1 : List S76) (A1 : List S64) (r2 : List Int) (Ai Ap Aw Awb Ac Acb : Option Addr) (ci cp cw cwb cc ccb : Nat) : Prop where
 n0 : w.heap.size ≤ N0
 n1 : N0 ≤ N1
 n2 : N1 ≤ N2
 n3 : N2 ≤ N3
 n4 : N3 ≤ N4
 hB : Below w.heap.size w W
 hI : Kd.U (Kd.string, mkB) 9 W w.heap.size (fun k_ => k_ < N0) (.slice Ai l0.length ci) l0
 hP : Kd.S ku 60 W w.heap.size (fun k_ => N0 ≤ k_ ∧ k_ < N1) (.slice Ap l2.length cp) l2
 hW : Kd.S k76 76 W w.heap.size (fun k_ => N1 ≤ k_ ∧ k_ < N2) (.slice Aw W1.length cw) W1
 hWb : Kd.R (Kd.int .i64) 3 W w.heap.size (fun k_ => N1 ≤ k_ ∧ k_ < N2) (.slice Awb r2.length cwb) r2
 hC : Kd.S k64 64 W w.heap.size (fun k_ => N3 ≤ k_ ∧ k_ < N4) (.slice Ac A1.length cc) A1
 hCb : Kd.R (Kd.int .i64) 3 W w.heap.size (fun k_ => N3 ≤ k_ ∧ k_ < N4) (.slice Acb r2.length ccb) r2
section
variable {w W W' : World} {N0 N1 N2 N3 N4 : Nat} {l0 : List ByteArray} {l2 : List (List Int)} {W1 : List S76} {A1 : List S64} {r2 : List Int} {Ai Ap Aw Awb Ac Acb : Option Addr} {ci cp cw cwb cc ccb : Nat}
theorem mq_Z.kept (h : mq_Z w W N0 N1 N2 N3 N4 l0 l2 W1 A1 r2 Ai Ap Aw Awb Ac Acb ci cp cw cwb cc ccb) {S : Nat → Prop} (hk : Kept W W' S) (hS : ∀ k_, S k_ → N2 ≤ k_ ∧ k_ < N3) (hB : Below w.heap.size w W') : mq_Z w W' N0 N1 N2 N3 N4 l0 l2 W1 A1 r2 Ai Ap Aw Awb Ac Acb ci cp cw cwb cc ccb := by
 have a1 := h.n1; have a2 := h.n2; have a3 := h.n3; have a4 := h.n4
 obtain ⟨A, c, e, hU⟩ := h.hI
 exact ⟨h.n0, h.n1, h.n2, h.n3, h.n4, hB, ⟨A, c, e, Kd.R_kept hU hk (fun k_ hk_ hs => by have := hS k_ hs; omega)⟩, Kd.S_kept h.hP hk (fun k_ hk_ hs => by have := hS k_ hs; omega), Kd.S_kept h.hW hk (fun k_ hk_ hs => by have := hS k_ hs; omega), Kd.R_kept h.hWb hk (fun k_ hk_ hs => by have := hS k_ hs; omega), Kd.S_kept h.hC hk (fun k_ hk_ hs => by have := hS k_ hs; omega), Kd.R_kept h.hCb hk (fun k_ hk_ hs => by have := hS k_ hs; omega)⟩
theorem mq_Z.below (h : mq_Z w W N0 N1 N2 N3 N4 l0 l2 W1 A1 r2 Ai Ap Aw Awb Ac Acb ci cp cw cwb cc ccb) (hb : Below W.heap.size W W') : mq_Z w W' N0 N1 N2 N3 N4 l0 l2 W1 A1 r2 Ai Ap Aw Awb Ac Acb ci cp cw cwb cc ccb :=
 ⟨h.n0, h.n1, h.n2, h.n3, h.n4, below_step h.hB hb, Kd.U_below h.hI hb, Kd.S_below h.hP hb, Kd.S_below h.hW hb, Kd.R_below h.hWb hb, Kd.S_below h.hC hb, Kd.R_below h.hCb hb⟩
end
def mq_El (W : World) (ad : Addr) (j : Nat) (x : S64) (B1 : Option Addr) (d1 : Nat) (B2 : Option Addr) (d2 : Nat) : Prop :=
 W.cell? (ad.add (j * 3)) = some (.string x.f0) ∧ W.cell? ⟨(ad.add (j * 3)).block, (ad.add (j * 3)).off + 1, none⟩ = some (.slice B1 x.f1.length d1) ∧ W.cell? ⟨(ad.add (j * 3)).block, (ad.add (j * 3)).off + 2, none⟩ = some (.slice B2 x.f2.length d2) ∧ x.f1.length ≤ d1 ∧ (Kd.int .i64).C W B1 x.f1.length x.f1 ∧ x.f2.length ≤ d2 ∧ (Kd.int .i64).C W B2 x.f2.length x.f2
theorem mq_cell {W W' : World} {a : Addr} {u : Value} (h : W.cell? a = some u) (hb : Below W.heap.size W W') : W'.cell? a = some u := (hb.cell (World.block_lt_of_cell? W a h)).trans h
theorem mq_El.below {W W' : World} {ad : Addr} {j : Nat} {x : S64} {B1 : Option Addr} {d1 : Nat} {B2 : Option Addr} {d2 : Nat} (h : mq_El W ad j x B1 d1 B2 d2) (hb : Below W.heap.size W W') : mq_El W' ad j x B1 d1 B2 d2 := by
 obtain ⟨c0, c1, c2, l1, g1, l2, g2⟩ := h
 exact ⟨mq_cell c0 hb, mq_cell c1 hb, mq_cell c2 hb, l1, Kd.C_below g1 hb, l2, Kd.C_below g2 hb⟩
theorem mq_El.calls {W : World} {ad ad' : Addr} {j j' : Nat} {x : S64} {B1 : Option Addr} {d1 : Nat} {B2 : Option Addr} {d2 : Nat} {C1 : Option Addr} {e1 : Nat} {C2 : Option Addr} {e2 : Nat} (h : mq_El W ad j x B1 d1 B2 d2) (k : mq_El W ad' j' x C1 e1 C2 e2) (hx : x.f1.length ≤ 1000 ∧ x.f2.length ≤ 1000) :
  Calls Try.prog 56 #[.agg #[.string x.f0, .slice B1 x.f1.length d1, .slice B2 x.f2.length d2], .agg #[.string x.f0, .slice C1 x.f1.length e1, .slice C2 x.f2.length e2]] W fun e w' => e = .returned (.bool true) ∧ Below W.heap.size W w' := by
 obtain ⟨_, _, _, l1, g1, l2, g2⟩ := h
 obtain ⟨_, _, _, l3, g3, l4, g4⟩ := k
 exact foghornlaw20_alike.calls 2000 x.f0 B1 d1 x.f1 B2 d2 x.f2 x.f0 C1 e1 x.f1 C2 e2 x.f2 true W g1 l1 g2 l2 g3 l3 g4 l4 (mq_alike _ _ _ hx.1 hx.2)
theorem mq_lend {W : World} {base n c : Nat} {ok : Nat → Prop} {A : Option Addr} {xs : List (Option S64)} (h : Kd.S ko64 64 W base ok (.slice A n c) xs) (i : Nat) (x : S64) (hx : xs[i]? = some (some x)) :
  ∃ (P1 P2 : Nat → Prop) (ad : Addr) (B1 : Option Addr) (d1 : Nat) (B2 : Option Addr) (d2 : Nat), A = some ad ∧ W.cell? (ad.add (i * 3)) = some (.string x.f0) ∧ W.cell? ⟨(ad.add (i * 3)).block, (ad.add (i * 3)).off + 1, none⟩ = some (.slice B1 x.f1.length d1) ∧ W.cell? ⟨(ad.add (i * 3)).block, (ad.add (i * 3)).off + 2, none⟩ = some (.slice B2 x.f2.length d2) ∧
   Kd.R (Kd.int .i64) 3 W base P1 (.slice B1 x.f1.length d1) x.f1 ∧ Kd.R (Kd.int .i64) 3 W base P2 (.slice B2 x.f2.length d2) x.f2 ∧ (∀ k, P1 k → ¬ P2 k) ∧ (∀ k, P1 k ∨ P2 k → ok k) ∧ ∀ W', Kept W W' (fun k => P1 k ∨ P2 k) → Kd.S ko64 64 W' base ok (.slice A n c) (xs.set i none) := by
 have hi : i < xs.length := by
  refine Decidable.byContradiction (fun hc => ?_)
  rw [List.getElem?_eq_none (by omega)] at hx
  cases hx
 obtain ⟨g, cap, e, _, _, _⟩ := Kd.S_form h (by omega)
 injection e with e1 e2 e3
 subst e1; subst e2; subst e3
 obtain ⟨oki, cs, hcl, hM, hcc, hoki, hH⟩ := Kd.S_lend h none (i : Int) (by omega) (by omega)
 rw [Int.toNat_natCast] at hM hcc
 rw [List.getD_eq_getElem?_getD, hx] at hM
 have h1c := ko64.K_one (ko64.K_of_M hM)
 obtain ⟨P1, P2, v1, v2, rfl, h1, h2, h3, h4⟩ := (show kx64.M W base oki x cs from hM)
 obtain ⟨B1, d1, rfl⟩ := Kd.R_slice h1
 obtain ⟨B2, d2, rfl⟩ := Kd.R_slice h2
 have hc : ∀ j u, [Value.string x.f0, .slice B1 x.f1.length d1, .slice B2 x.f2.length d2][j]? = some u → W.cell? ⟨g, i * 3 + j, none⟩ = some u := hcc
 refine ⟨P1, P2, ⟨g, 0, none⟩, B1, d1, B2, d2, rfl, ?_, ?_, ?_, h1, h2, fun k hk => (h3 k hk).2, fun k hk => (hoki k (hk.elim (fun h_ => (h3 k h_).1) (h4 k))).1, fun W' hk => ?_⟩
 ·have := hc 0 _ rfl
  rwa [add_at, Nat.zero_add]
 ·have := hc 1 _ rfl
  rw [add_at, Nat.zero_add]
  exact this
 ·have := hc 2 _ rfl
  rw [add_at, Nat.zero_add]
  exact this
 ·have h5 := Kd.H_back (x' := none) (okp := fun _ => False) (Kd.H_kept hH hk (fun k _ hn hs => hn (hs.elim (fun h_ => (h3 k h_).1) (h4 k)))) (show ko64.M W' base (fun _ => False) none _ from ⟨hcl, h1c⟩) (fun _ h_ => h_.elim)
  rwa [Int.toNat_natCast] at h5
structure mq_Y (w W : World) (N0 N1 N2 N3 N4 : Nat) (l0 : List ByteArray) (l2 : List (List Int)) (W1 : List S76) (A1 : List S64) (r2 : List Int) (Ai Ap Aw Awb Ac Acb Aa Ab : Option Addr) (ci cp cw cwb cc ccb ca cb : Nat) (i : Nat) : Prop where
 z : mq_Z w W N0 N1 N2 N3 N4 l0 l2 W1 A1 r2 Ai Ap Aw Awb Ac Acb ci cp cw cwb cc ccb
 a : Kd.S ko64 64 W w.heap.size (fun k_ => (N2 ≤ k_ ∧ k_ < N3) ∧ some k_ ≠ (Value.slice Ab r2.length cb).ownBlock) (.slice Aa A1.length ca) (mq_L A1 i)
 b : Kd.R (Kd.int .i64) 3 W w.heap.size (fun k_ => (N2 ≤ k_ ∧ k_ < N3) ∧ some k_ = (Value.slice Ab r2.length cb).ownBlock) (.slice Ab r2.length cb) r2
section
variable {w W W' : World} {N0 N1 N2 N3 N4 : Nat} {l0 : List ByteArray} {l2 : List (List Int)} {W1 : List S76} {A1 : List S64} {r2 : List Int} {Ai Ap Aw Awb Ac Acb Aa Ab : Option Addr} {ci cp cw cwb cc ccb ca cb i : Nat}
theorem mq_Y.below (h : mq_Y w W N0 N1 N2 N3 N4 l0 l2 W1 A1 r2 Ai Ap Aw Awb Ac Acb Aa Ab ci cp cw cwb cc ccb ca cb i) (hb : Below W.heap.size W W') : mq_Y w W' N0 N1 N2 N3 N4 l0 l2 W1 A1 r2 Ai Ap Aw Awb Ac Acb Aa Ab ci cp cw cwb cc ccb ca cb i := ⟨h.z.below hb, Kd.S_below h.a hb, Kd.R_below h.b hb⟩
theorem mq_Y.drew (h : mq_Y w W N0 N1 N2 N3 N4 l0 l2 W1 A1 r2 Ai Ap Aw Awb Ac Acb Aa Ab ci cp cw cwb cc ccb ca cb i) : mq_Y w W.drew N0 N1 N2 N3 N4 l0 l2 W1 A1 r2 Ai Ap Aw Awb Ac Acb Aa Ab ci cp cw cwb cc ccb ca cb i := h.below (below_drew (Below.refl _ _))
theorem mq_Y.some_ (h : mq_Y w W N0 N1 N2 N3 N4 l0 l2 W1 A1 r2 Ai Ap Aw Awb Ac Acb Aa Ab ci cp cw cwb cc ccb ca cb i) (hl : A1.length = W1.length) (hp : 0 < A1.length) : ∃ a b c, Aa = some a ∧ Aw = some b ∧ Ac = some c := by
 obtain ⟨g1, _, e1, _⟩ := Kd.S_form h.a (by rw [mq_L_len]; exact hp)
 obtain ⟨g2, _, e2, _⟩ := Kd.S_form h.z.hW (by omega)
 obtain ⟨g3, _, e3, _⟩ := Kd.S_form h.z.hC hp
 injection e1 with e1 _ _
 injection e2 with e2 _ _
 injection e3 with e3 _ _
 exact ⟨_, _, _, e1, e2, e3⟩
theorem mq_Y.atA {ad : Addr} (h : mq_Y w W N0 N1 N2 N3 N4 l0 l2 W1 A1 r2 Ai Ap Aw Awb Ac Acb (some ad) Ab ci cp cw cwb cc ccb ca cb i) (j : Nat) (x : S64) (hj : i ≤ j) (hx : A1[j]? = some x) : ∃ B1 d1 B2 d2, mq_El W ad j x B1 d1 B2 d2 := by
 have hl : j < A1.length := (List.getElem?_eq_some_iff.1 hx).1
 obtain ⟨ad', B1, d1, B2, d2, e, c0, c1, c2, l1, g1, l2, g2⟩ := mq_at h.a j x (by rw [mq_L_at A1 i j hl, if_neg (by omega), hx])
 injection e with e
 subst e
 exact ⟨B1, d1, B2, d2, c0, c1, c2, l1, g1, l2, g2⟩
theorem mq_Y.atC {ad : Addr} (h : mq_Y w W N0 N1 N2 N3 N4 l0 l2 W1 A1 r2 Ai Ap Aw Awb (some ad) Acb Aa Ab ci cp cw cwb cc ccb ca cb i) (j : Nat) (x : S64) (hx : A1[j]? = some x) : ∃ B1 d1 B2 d2, mq_El W ad j x B1 d1 B2 d2 := by
 have hl : j < A1.length := (List.getElem?_eq_some_iff.1 hx).1
 obtain ⟨ad', B1, d1, B2, d2, e, c0, c1, c2, l1, g1, l2, g2⟩ := at_T64 (Kd.S_reads' h.z.hC).2.2 (j : Int) (by omega) (by omega)
 have hr : rd_T64 A1 (j : Int) = x := by unfold rd_T64; rw [Int.toNat_natCast, List.getD_eq_getElem?_getD, hx]; rfl
 rw [hr] at c0 c1 c2 l1 g1 l2 g2
 rw [Int.toNat_natCast] at c0 c1 c2
 injection e with e
 subst e
 exact ⟨B1, d1, B2, d2, c0, c1, c2, l1, g1, l2, g2⟩
theorem mq_Y.atW {ad : Addr} (h : mq_Y w W N0 N1 N2 N3 N4 l0 l2 W1 A1 r2 Ai Ap (some ad) Awb Ac Acb Aa Ab ci cp cw cwb cc ccb ca cb i) (hWA : W1.map (fun x => (x.f0, x.f1, x.f2)) = A1.map (fun x => (x.f0, x.f1, x.f2))) (j : Nat) (x : S64) (hx : A1[j]? = some x) : ∃ B1 d1 B2 d2, mq_El W ad j x B1 d1 B2 d2 := by
 have hq := congrArg (fun l => l[j]?) hWA
 simp only [List.getElem?_map, hx, Option.map_some] at hq
 obtain ⟨y, hy, hxy⟩ := Option.map_eq_some_iff.1 hq
 have hl : j < W1.length := (List.getElem?_eq_some_iff.1 hy).1
 obtain ⟨ad', B1, d1, B2, d2, e, c0, c1, c2, l1, g1, l2, g2⟩ := at_T76 (Kd.S_reads' h.z.hW).2.2 (j : Int) (by omega) (by omega)
 have hr : rd_T76 W1 (j : Int) = y := by unfold rd_T76; rw [Int.toNat_natCast, List.getD_eq_getElem?_getD, hy]; rfl
 simp only [Prod.mk.injEq] at hxy
 rw [hr] at c0 c1 c2 l1 g1 l2 g2
 rw [Int.toNat_natCast] at c0 c1 c2
 rw [hxy.1] at c0
 rw [hxy.2.1] at c1 l1 g1
 rw [hxy.2.2] at c2 l2 g2
 injection e with e
 subst e
 exact ⟨B1, d1, B2, d2, c0, c1, c2, l1, g1, l2, g2⟩
theorem mq_Y.spoilt {ad : Addr} (h : mq_Y w W N0 N1 N2 N3 N4 l0 l2 W1 A1 r2 Ai Ap Aw Awb Ac Acb (some ad) Ab ci cp cw cwb cc ccb ca cb i) (x : S64) (hx : A1[i]? = some x) :
  ∃ (P1 P2 : Nat → Prop) (B1 : Option Addr) (d1 : Nat) (B2 : Option Addr) (d2 : Nat), W.cell? (ad.add (i * 3)) = some (.string x.f0) ∧ W.cell? ⟨(ad.add (i * 3)).block, (ad.add (i * 3)).off + 1, none⟩ = some (.slice B1 x.f1.length d1) ∧ W.cell? ⟨(ad.add (i * 3)).block, (ad.add (i * 3)).off + 2, none⟩ = some (.slice B2 x.f2.length d2) ∧
   Kd.R (Kd.int .i64) 3 W w.heap.size P1 (.slice B1 x.f1.length d1) x.f1 ∧ Kd.R (Kd.int .i64) 3 W w.heap.size P2 (.slice B2 x.f2.length d2) x.f2 ∧ (∀ k, P1 k → ¬ P2 k) ∧ ∀ W', Below w.heap.size w W' → Kept W W' (fun k => P1 k ∨ P2 k) → mq_Y w W' N0 N1 N2 N3 N4 l0 l2 W1 A1 r2 Ai Ap Aw Awb Ac Acb (some ad) Ab ci cp cw cwb cc ccb ca cb (i + 1) := by
 have hl : i < A1.length := (List.getElem?_eq_some_iff.1 hx).1
 obtain ⟨P1, P2, ad', B1, d1, B2, d2, e, c0, c1, c2, h1, h2, h3, h4, h5⟩ := mq_lend h.a i x (by rw [mq_L_at A1 i i hl, if_neg (by omega), hx])
 injection e with e
 subst e
 refine ⟨P1, P2, B1, d1, B2, d2, c0, c1, c2, h1, h2, h3, fun W' hb hk => ⟨h.z.kept hk (fun k hs => (h4 k hs).1) hb, ?_, Kd.R_kept h.b hk (fun k hb_ hs => (h4 k hs).2 hb_.2)⟩⟩
 have h6 := h5 W' hk
 rwa [mq_L_set A1 i hl] at h6
end
theorem mq_w1 (n : Nat) (h : n < 17592186044415) : wrap64 ((n : Int) + 1) = (n : Int) + 1 := by
 unfold wrap64
 omega
theorem mq_bne (m : ByteArray) : (m != m) = false := by
 show (!(m.data == m.data)) = false
 rw [beq_self_eq_true]
 rfl
theorem mq_at_string {w : World} {ad : Addr} {n : Nat} {xs : List ByteArray} (h : Kd.string.C w (some ad) n xs) (i : Int) (h0 : 0 ≤ i) (h1 : i < n) : w.cell? (ad.add i.toNat) = some (.string (rdOf ByteArray.empty xs i)) := by
 obtain ⟨ad', e, hx⟩ := Kd.at_string h i h0 h1
 injection e with e
 subst e
 exact hx
theorem mq_mark {W : World} {base n c : Nat} {ok : Nat → Prop} {A : Option Addr} {xs : List ByteArray} (h : Kd.U (Kd.string, mkB) 9 W base ok (.slice A n c) xs) : ∃ ad, A = some ad ∧ xs.length + 1 ≤ c ∧ W.cell? (ad.add xs.length) = some (.string { data := #[109, 97, 114, 107] }) := by
 obtain ⟨rfl, h⟩ := Kd.U_full h
 obtain ⟨_, h2, h3⟩ := Kd.R_reads' h
 obtain ⟨ad, rfl, hx⟩ := Kd.at_string h3 (xs.length : Int) (by omega) (by omega)
 refine ⟨ad, rfl, h2, ?_⟩
 rw [Int.toNat_natCast] at hx
 rw [hx]
 unfold rdOf
 simp
 rfl
def mq_Pl (W : World) (ad : Addr) (j : Nat) (x : List Int) (adq : Addr) (cq : Nat) : Prop :=
 W.cell? (ad.add j) = some (.slice (some adq) x.length cq) ∧ W.cell? (adq.add x.length) = some (.int .i64 987) ∧ x.length + 1 ≤ cq ∧ (Kd.int .i64).C W (some adq) x.length x
theorem mq_Pl.below {W W' : World} {ad : Addr} {j : Nat} {x : List Int} {adq : Addr} {cq : Nat} (h : mq_Pl W ad j x adq cq) (hb : Below W.heap.size W W') : mq_Pl W' ad j x adq cq := ⟨mq_cell h.1 hb, mq_cell h.2.1 hb, h.2.2.1, Kd.C_below h.2.2.2 hb⟩
theorem mq_plc {W : World} {base n c : Nat} {ok : Nat → Prop} {A : Option Addr} {xs : List (List Int)} (h : Kd.S ku 60 W base ok (.slice A n c) xs) (i : Nat) (x : List Int) (hx : xs[i]? = some x) : ∃ ad adq cq, A = some ad ∧ mq_Pl W ad i x adq cq := by
 have hi : i < xs.length := (List.getElem?_eq_some_iff.1 hx).1
 obtain ⟨g, cap, e, _, _, _⟩ := Kd.S_form h (by omega)
 injection e with e1 e2 e3
 subst e1; subst e2; subst e3
 obtain ⟨cs, hcl, hM, hcc0⟩ := Kd.S_get h ([] : List Int) (i : Int) (by omega) (by omega)
 rw [Int.toNat_natCast] at hM hcc0
 rw [List.getD_eq_getElem?_getD, hx] at hM
 obtain ⟨v, rfl, hU⟩ := hM
 obtain ⟨Aq, cq, rfl, hR0⟩ := hU
 have hR : (Kd.int .i64).R 3 W base _ (.slice Aq (x.length + 1) cq) (x ++ [987]) := hR0
 obtain ⟨hl, h2, h3⟩ := Kd.R_reads' hR
 obtain ⟨adq, rfl, hy⟩ := Kd.at_int h3 (x.length : Int) (by omega) (by omega)
 rw [Int.toNat_natCast] at hy
 have hrd : rd (x ++ [987]) (x.length : Int) = 987 := by unfold rd; simp
 have hc : ∀ j u, [Value.slice (some adq) x.length cq][j]? = some u → W.cell? ((⟨g, 0, none⟩ : Addr).add (i * 1 + j)) = some u := hcc0
 refine ⟨⟨g, 0, none⟩, adq, cq, rfl, ?_, ?_, ?_, ?_⟩
 ·have := hc 0 _ rfl
  rwa [Nat.mul_one, Nat.add_zero] at this
 ·exact hy.trans (congrArg (fun z => some (Value.int .i64 z)) hrd)
 ·exact h2
 ·have h4 := Kd.C_take (m := x.length) h3 (by omega)
  rwa [List.take_left] at h4
theorem mq_P_reads {W : World} {base n c : Nat} {ok : Nat → Prop} {A : Option Addr} {xs : List (List Int)} (h : Kd.S ku 60 W base ok (.slice A n c) xs) : Kd.C (Kd.slice 3 (Kd.int .i64)) W A xs.length xs := (Kd.S_reads' h).2.2
set_option maxHeartbeats 8000000 in
set_option maxRecDepth 100000 in
theorem mq_go (k : Nat) (A0 : Option Addr) (c0 : Nat) (l0 : List ByteArray) (a1 : Int) (A2 : Option Addr) (c2 : Nat) (l2 : List (List Int)) (w : World) (hr0 : Kd.C Kd.string w A0 l0.length l0) (hc0 : l0.length ≤ c0) (hr2 : Kd.C (Kd.slice 3 (Kd.int .i64)) w A2 l2.length l2) (hc2 : l2.length ≤ c2)
  (hl0 : l0.length < 8796093022207) (hl2 : l2.length < 5864062014805) (hlx : ∀ x ∈ l2, x.length < 17592186044415) (W1 : List S76) (A1 : List S64) (r2 : List Int) (r3 : Int) (hW : foghornref20_All.f k l0 a1 l2 = some (W1, r2, r3)) (hA : mend_All.f k l0 a1 l2 = some (A1, r2, r3)) (hWA : W1.map (fun x => (x.f0, x.f1, x.f2)) = A1.map (fun x => (x.f0, x.f1, x.f2)))
  (hlA : ∀ x ∈ A1, x.f1.length ≤ 1000 ∧ x.f2.length ≤ 1000) (hlA1 : A1.length ≤ 100000) (hl2r : r2.length ≤ 100000) (m1 : ByteArray) (m2 : Int) (hM : foghornref20_Message.f k l0 a1 l2 = some (m1, m2)) (hM2 : mend_Message.f k l0 a1 l2 = some (m1, m2)) :
  Calls Try.prog 15 #[.slice A0 l0.length c0, .int .i64 a1, .slice A2 l2.length c2] w fun e w' => e = .returned (.bool true) ∧ Below w.heap.size w w' := by
 have HR0 := Aside0.mk hr0
 have HC0 := Aside0.mk hc0
 have HR2 := Aside0.mk hr2
 have HC2 := Aside0.mk hc2
 have HL0 := Aside0.mk hl0
 have HL2 := Aside0.mk hl2
 have HLX := Aside0.mk hlx
 have HB := Aside0.mk (Below.refl w.heap.size w)
 clear hr0 hc0 hr2 hc2 hl0 hl2 hlx
 have hu64 := Try.underlying64
 go_enter Try.func15, Try.ntmps15
 go_wp2_with (first
  | ((with_reducible refine gate_dst (N := 32) rfl ?_); refine Kd.R_lit Kd.string _ 9 ?hg (N := 32) ?hd (xs := ([] : List ByteArray)) (inner := []) (ok := fun _ => True) (okp := fun _ => True) ?hr ?hp (fun _ hk => hk) trivial (Below.refl _ _) (Nat.le_refl _) (by simp) ?_; (case hd => rfl); (case hg => rfl); (case hr => first | (go_simp; done) | (go_simp; rfl)); (case hp => exact (Reps.none _ _)); intro v1 w1 ho hb hg_ hnew_; clear hg_ hnew_; have HO1 := Aside0.mk (Kd.R_lower ho (below_size HB.out)); have HB1 := Aside0.mk (below_step HB.out hb); clear ho hb)
  | ((with_reducible refine gate_builtin (b := .append) (xs := #[.tmp 32, .tmp 33]) rfl ?_); at_builtin; refine Kd.R_append_rows Kd.string (w0 := w) w.heap.size rfl (.tmp 32) (.tmp 33) 41 9 (.string ⟨#[]⟩) 16 rfl Try.underlying41 info9 rfl (by decide) (by omega) v1 [] l0 _ _ _ (fun _ => True) (fun _ => False) rfl rfl ?aO ?aR (fun _ _ h => h) (fun _ h => h.elim) ?aF ?aB ?aS ?aL ?_; (case aR => exact Kd.C_below HR0.out HB1.out); (case aB => exact HB1.out); (case aF => exact (fun _ _ => trivial)); (case aO => exact HO1.out); (case aS => exact (below_size HB1.out)); (case aL => have := HL0.out; rw [List.length_nil]; omega); intro v2 w2 ho hb hg hat; rw [List.nil_append] at ho; have HO2 := Aside0.mk ho; have HB2 := Aside0.mk hb; clear ho hb hg hat)
  | ((with_reducible refine gate_builtin (b := .append) (xs := #[.tmp 34, .tmp 35]) rfl ?_); at_builtin; refine Kd.R_append Kd.string (w0 := w) w.heap.size rfl (.tmp 34) (.tmp 35) 41 9 (.string ⟨#[]⟩) 16 rfl Try.underlying41 info9 rfl (by decide) (by omega) v2 l0 mkB [.string mkB] (fun _ => True) (fun _ => False) rfl rfl ?aP (fun _ hk => hk.elim) ?aF ?aO ?aB ?aS ?aL ?_; (case aP => exact rfl); (case aB => exact HB2.out); (case aF => exact (fun _ _ => trivial)); (case aO => exact HO2.out); (case aS => exact (below_size HB2.out)); (case aL => have := HL0.out; omega); intro v3 w3 ho hb hg hat; have HO3 := Aside0.mk ho; have HB3 := Aside0.mk hb; clear ho hb hg hat; obtain ⟨Ai, ci, ei⟩ := Kd.R_slice HO3.out; subst ei; obtain ⟨i0, hi0, _, hsz0, _⟩ := info_parts info9; have hcut := cut_to (P := Try.prog) 41 9 .i64 Try.underlying41 hi0 Ai (l0 ++ [mkB]).length ci (l0.length : Int) (by omega) (by rw [List.length_append]; omega) (Kd.R_reads' HO3.out).2.1; rw [Int.toNat_natCast, List.length_append, List.length_singleton] at hcut; have HI := Aside0.mk (Kd.U_of (m := (Kd.string, mkB)) (Kd.R_mono (ok' := fun k_ => k_ < w3.heap.size) (Kd.R_bound HO3.out) (fun _ h_ => h_.2.2.1)) rfl rfl); clear HO1 HO2 HB1 HB2 HO3 hi0 hsz0))
 obtain ⟨N0, hN0⟩ : ∃ N, N = w3.heap.size := ⟨_, rfl⟩
 rw [← hN0] at HI
 have HN0 := Aside0.mk (show w.heap.size ≤ N0 ∧ N0 ≤ w3.heap.size from ⟨by rw [hN0]; exact HB3.out.size, by omega⟩)
 clear hcut hN0
 go_loopg [9, 10] (l2.length + 1) (fun kq v9 v10 w' => ∃ i : Nat, v10 = .int .i64 (i : Int) ∧ Aside0 (i + kq = l2.length + 1 ∧ i ≤ l2.length) ∧ Aside0 (mq_P w w' N0 l0 Ai ci v9 (l2.take i)))
 case atStart => exact ⟨0, rfl, ⟨by omega, Nat.zero_le _⟩, ⟨HN0.out.1, HN0.out.2, HI.out, Kd.S_nil _ _ _ _ _, HB3.out⟩⟩
 case round =>
  clear HI HB3 HN0
  obtain ⟨i, rfl, HK, HP⟩ := hrel
  obtain ⟨hP1, hP2, hP3, hP4, hP5⟩ := HP.out
  clear HP
  have HN0 := Aside0.mk hP1
  have HN1 := Aside0.mk hP2
  have HI := Aside0.mk hP3
  have HP := Aside0.mk hP4
  have HB := Aside0.mk hP5
  clear hP1 hP2 hP3 hP4 hP5
  cases gk with
  | zero => have := HK.out; omega
  | succ k1 =>
  by_cases hi : i < l2.length
  ·have hlt : decide (i < l2.length) = true := decide_eq_true hi
   have hlt' : decide ((i : Int) < (l2.length : Int)) = true := decide_eq_true (by omega)
   obtain ⟨ad2, A, c, e2, hc2', hlc, hCl⟩ := at_L9 HR2.out (i : Int) (by omega) (by omega)
   subst e2
   have hl : rd_L9 l2 (i : Int) = l2[i] := by unfold rd_L9; rw [Int.toNat_natCast, List.getD_eq_getElem?_getD, List.getElem?_eq_getElem hi]; rfl
   rw [hl] at hc2' hlc hCl
   rw [Int.toNat_natCast] at hc2'
   obtain ⟨l, hlx⟩ : ∃ l, l = l2[i] := ⟨_, rfl⟩
   rw [← hlx] at hc2' hlc hCl
   have HLL := Aside0.mk (show l.length < 17592186044415 from HLX.out l (by rw [hlx]; exact List.getElem_mem hi))
   have HTK := Aside0.mk (show l2.take (i + 1) = l2.take i ++ [l] from by rw [hlx, List.take_succ_eq_append_getElem hi])
   have HC2 := Aside0.mk (show ∀ W : World, Below w.heap.size w W → W.cell? (ad2.add i) = some (.slice A l.length c) from fun W hb => (hb.cell (World.block_lt_of_cell? w _ hc2')).trans hc2')
   have HLC := Aside0.mk hlc
   have HCL := Aside0.mk hCl
   have hp0 : (0 ≤ (i : Int)) = True := eq_true (by omega)
   have hp2 : ((i : Int) < (l2.length : Int)) = True := eq_true (by omega)
   have hp4 : (i < l2.length) = True := eq_true hi
   have hx2 := HC2.out wr HB.out
   have HILT := Aside0.mk hi
   clear hl hc2' hlc hCl hlx hi
   have HP0 := Aside0.mk (Kd.S_mono (ok' := fun k_ => N0 ≤ k_ ∧ k_ < wr.heap.size) (Kd.S_bound HP.out) (fun _ h_ => ⟨h_.1, h_.2.2.1⟩))
   have HPK := Aside0.mk (Kd.S_R HP.out).1
   have HPL := Aside0.mk (Kd.S_lt HP.out)
   clear HP
   go_wp2_with (first
    | ((with_reducible refine gate_dst (N := 51) rfl ?_); refine Kd.R_lit (Kd.int .i64) _ 3 ?hg (N := 51) ?hd (xs := ([] : List Int)) (inner := []) (ok := fun _ => True) (okp := fun _ => True) ?hr ?hp (fun _ hk => hk) trivial (Below.refl _ _) (Nat.le_refl _) (by simp) ?_; (case hd => rfl); (case hg => rfl); (case hr => first | (go_simp; done) | (go_simp; rfl)); (case hp => exact (Reps.none _ _)); intro v4 w4 ho hb hg_ hnew_; clear hg_ hnew_; have HO4 := Aside0.mk ho; have HB4 := Aside0.mk hb; have hx4 := HC2.out w4 (below_step HB.out HB4.out); clear ho hb)
    | ((with_reducible refine gate_builtin (b := .append) (xs := #[.tmp 51, .tmp 55]) rfl ?_); at_builtin; refine Kd.R_append_rows (Kd.int .i64) (w0 := wr) wr.heap.size rfl (.tmp 51) (.tmp 55) 60 3 (.int .i64 0) 8 rfl Try.underlying60 info3 rfl (by decide) (by omega) v4 [] l _ _ _ (fun _ => True) (fun _ => False) rfl rfl ?aO ?aR (fun _ _ h => h) (fun _ h => h.elim) ?aF ?aB ?aS ?aL ?_; (case aR => exact Kd.C_below (Kd.C_below HCL.out HB.out) HB4.out); (case aB => exact HB4.out); (case aF => exact (fun _ _ => trivial)); (case aO => exact HO4.out); (case aS => exact (below_size HB4.out)); (case aL => have := HLL.out; rw [List.length_nil]; omega); intro v5 w5 ho hb hg hat; rw [List.nil_append] at ho; have HO5 := Aside0.mk ho; have HB5 := Aside0.mk hb; clear ho hb hg hat)
    | ((with_reducible refine gate_builtin (b := .append) (xs := #[.tmp 56, .tmp 57]) rfl ?_); at_builtin; refine Kd.R_append (Kd.int .i64) (w0 := wr) wr.heap.size rfl (.tmp 56) (.tmp 57) 60 3 (.int .i64 0) 8 rfl Try.underlying60 info3 rfl (by decide) (by omega) v5 l 987 [.int .i64 987] (fun _ => True) (fun _ => False) rfl rfl ?aP (fun _ hk => hk.elim) ?aF ?aO ?aB ?aS ?aL ?_; (case aP => exact rfl); (case aB => exact HB5.out); (case aF => exact (fun _ _ => trivial)); (case aO => exact HO5.out); (case aS => exact (below_size HB5.out)); (case aL => have := HLL.out; omega); intro v6 w6 ho hb hg hat; have HO6 := Aside0.mk ho; have HB6 := Aside0.mk hb; clear ho hb hg hat; obtain ⟨Aq, cq, eq⟩ := Kd.R_slice HO6.out; subst eq; obtain ⟨i0, hi0, _, hsz0, _⟩ := info_parts info3; have hcut := cut_to (P := Try.prog) 60 3 .i64 Try.underlying60 hi0 Aq (l ++ [987]).length cq (l.length : Int) (by omega) (by rw [List.length_append]; omega) (Kd.R_reads' HO6.out).2.1; rw [Int.toNat_natCast, List.length_append, List.length_singleton] at hcut; have HU6 := Aside0.mk (Kd.U_of (m := ((Kd.int .i64), 987)) (Kd.R_mono (ok' := fun k_ => wr.heap.size ≤ k_ ∧ k_ < w6.heap.size) (Kd.R_bound HO6.out) (fun _ h_ => ⟨h_.2.1, h_.2.2.1⟩)) rfl rfl); have HP6 := Aside0.mk (Kd.S_below HP0.out HB6.out); have HI6 := Aside0.mk (Kd.U_below HI.out HB6.out); have HBW := Aside0.mk (below_step HB.out HB6.out); have HS6 := Aside0.mk (below_size HB6.out); clear HO4 HO5 HB4 HB5 HO6 hi0 hsz0 hx2 hx4 HI)
    | ((with_reducible refine gate_dst (N := 62) rfl ?_); refine Kd.S_append ku (w0 := w) w.heap.size rfl (.tmp 50) (.tmp 61) 74 60 (.slice none 0 0) 24 rfl Try.underlying74 info60 rfl (by decide) (by omega) u9 (l2.take i) l [.slice Aq l.length cq] (fun k_ => N0 ≤ k_) (fun k_ => wr.heap.size ≤ k_ ∧ k_ < w6.heap.size) rfl (by first | (go_simp; done) | (go_simp; rfl)) ⟨_, rfl, Kd.U_lower HU6.out (below_size HB.out)⟩ (fun k_ hk => ⟨Nat.le_trans HN1.out hk.1, fun e_ => by have := HPL.out k_ e_.symm; omega⟩) (fun k_ hk => by have := HN1.out; have := HS6.out; omega) (Kd.S_mono HP6.out (fun k_ hk => ⟨hk.1, fun h_ => by omega⟩)) HBW.out (below_size HBW.out) (by have := HL2.out; have := HILT.out; rw [List.length_take]; omega) ?_; intro v9 w7 ho hb hg hat; have HP7 := Aside0.mk ho; have HB7 := Aside0.mk hb; have HI7 := Aside0.mk (Kd.U_grown HI6.out hg (fun k_ hk e_ => by have := HPK.out k_ e_.symm; omega)); have HS7 := Aside0.mk hg.size; clear ho hb hg hat))
   go_roundg k1
   case measure => omega
   case rel =>
    have hw : wrap64 ((i : Int) + 1) = ((i + 1 : Nat) : Int) := by have := HK.out; have := HL2.out; unfold wrap64; omega
    exact ⟨i + 1, (by first | rfl | exact congrArg (fun y => Value.int .i64 y) hw), ⟨by have := HK.out; have := HILT.out; omega⟩, ⟨HN0.out, by have := HN1.out; have := HS6.out; have := HS7.out; omega, HI7.out, by rw [HTK.out]; exact HP7.out, HB7.out⟩⟩
  ·have hlt : decide (i < l2.length) = false := decide_eq_false hi
   have hlt' : decide ((i : Int) < (l2.length : Int)) = false := decide_eq_false (by omega)
   obtain rfl : i = l2.length := by have := HK.out; omega
   rw [List.take_length] at HP
   clear hi HK
   obtain ⟨Ap, cp, ep⟩ := Kd.S_slice HP.out
   subst ep
   have HS0 := Aside0.mk (below_size HB.out)
   go_upto_region 12 with (first
    | (go_at_call 61; (with_reducible refine (foghornref20_All.calls k A0 c0 l0 a1 A2 c2 l2 W1 r2 r3 _ (Kd.C_below HR0.out HB.out) HC0.out (Kd.C_below HR2.out HB.out) HC2.out hW).mono ?_); rintro e w8 ⟨v12, v13, rfl, ho1, ho2, hb⟩; have HW := Aside0.mk (Kd.S_lower (Kd.S_mono (ok' := fun k_ => wr.heap.size ≤ k_ ∧ k_ < w8.heap.size) (Kd.S_bound ho1) (fun _ h_ => ⟨h_.2.1, h_.2.2.1⟩)) HS0.out); have HWb := Aside0.mk (Kd.R_lower (Kd.R_mono (ok' := fun k_ => wr.heap.size ≤ k_ ∧ k_ < w8.heap.size) (Kd.R_bound ho2) (fun _ h_ => ⟨h_.2.1, h_.2.2.1⟩)) HS0.out); have HP8 := Aside0.mk (Kd.S_below (Kd.S_mono (ok' := fun k_ => N0 ≤ k_ ∧ k_ < wr.heap.size) (Kd.S_bound HP.out) (fun _ h_ => ⟨h_.1, h_.2.2.1⟩)) hb); have HI8 := Aside0.mk (Kd.U_below HI.out hb); have HB8 := Aside0.mk (below_step HB.out hb); have HS8 := Aside0.mk (below_size hb); clear ho1 ho2 hb HP HI)
    | (go_at_call 54; (with_reducible refine (mend_All.own k Ai ci l0 a1 Ap cp l2 A1 r2 r3 _ (Kd.U_reads' HI8.out).2.2 (Kd.U_reads' HI8.out).2.1 (mq_P_reads HP8.out) (Kd.S_reads' HP8.out).2.1 hA).mono ?_); rintro e w9 ⟨v15, v16, rfl, ho1, ho2, hb⟩; have HA := Aside0.mk (Kd.S_lower (Kd.S_mono (ok' := fun k_ => (w8.heap.size ≤ k_ ∧ k_ < w9.heap.size) ∧ some k_ ≠ v16.ownBlock) (Kd.S_bound ho1) (fun _ h_ => ⟨⟨h_.2.1, h_.2.2.1⟩, h_.1⟩)) (below_size HB8.out)); have HAb := Aside0.mk (Kd.R_lower (Kd.R_mono (ok' := fun k_ => (w8.heap.size ≤ k_ ∧ k_ < w9.heap.size) ∧ some k_ = v16.ownBlock) (Kd.R_bound (Kd.R_tight rfl ho2)) (fun _ h_ => ⟨⟨h_.2.1, h_.2.2.1⟩, h_.1⟩)) (below_size HB8.out)); have HP9 := Aside0.mk (Kd.S_below HP8.out hb); have HI9 := Aside0.mk (Kd.U_below HI8.out hb); have HW9 := Aside0.mk (Kd.S_below HW.out hb); have HWb9 := Aside0.mk (Kd.R_below HWb.out hb); have HB9 := Aside0.mk (below_step HB8.out hb); have HS9 := Aside0.mk (below_size hb); clear ho1 ho2 hb HP8 HI8 HW HWb)
    | (go_at_call 54; (with_reducible refine (mend_All.calls k Ai ci l0 a1 Ap cp l2 A1 r2 r3 _ (Kd.U_reads' HI9.out).2.2 (Kd.U_reads' HI9.out).2.1 (mq_P_reads HP9.out) (Kd.S_reads' HP9.out).2.1 hA).mono ?_); rintro e w10 ⟨v18, v19, rfl, ho1, ho2, hb⟩; have HC := Aside0.mk (Kd.S_lower (Kd.S_mono (ok' := fun k_ => w9.heap.size ≤ k_ ∧ k_ < w10.heap.size) (Kd.S_bound ho1) (fun _ h_ => ⟨h_.2.1, h_.2.2.1⟩)) (below_size HB9.out)); have HCb := Aside0.mk (Kd.R_lower (Kd.R_mono (ok' := fun k_ => w9.heap.size ≤ k_ ∧ k_ < w10.heap.size) (Kd.R_bound ho2) (fun _ h_ => ⟨h_.2.1, h_.2.2.1⟩)) (below_size HB9.out)); have HP10 := Aside0.mk (Kd.S_below HP9.out hb); have HI10 := Aside0.mk (Kd.U_below HI9.out hb); have HW10 := Aside0.mk (Kd.S_below HW9.out hb); have HWb10 := Aside0.mk (Kd.R_below HWb9.out hb); have HA10 := Aside0.mk (Kd.S_below HA.out hb); have HAb10 := Aside0.mk (Kd.R_below HAb.out hb); have HB10 := Aside0.mk (below_step HB9.out hb); have HS10 := Aside0.mk (below_size hb); clear ho1 ho2 hb HP9 HI9 HW9 HWb9 HA HAb))
   obtain ⟨Aw, cw, ew⟩ := Kd.S_slice HW10.out
   subst ew
   obtain ⟨Awb, cwb, ew⟩ := Kd.R_slice HWb10.out
   subst ew
   obtain ⟨Ac, cc, ew⟩ := Kd.S_slice HC.out
   subst ew
   obtain ⟨Acb, ccb, ew⟩ := Kd.R_slice HCb.out
   subst ew
   obtain ⟨Aa, ca, ew⟩ := Kd.S_slice HA10.out
   subst ew
   obtain ⟨Ab, cb, ew⟩ := Kd.R_slice HAb10.out
   subst ew
   have HZ := Aside0.mk (mq_Z.mk (N0 := N0) (N1 := wr.heap.size) (N2 := w8.heap.size) (N3 := w9.heap.size) (N4 := w10.heap.size) HN0.out HN1.out HS8.out HS9.out HS10.out HB10.out HI10.out HP10.out HW10.out HWb10.out HC.out HCb.out)
   have HAO := Aside0.mk (S_map_ (d := kx64) (d' := ko64) some rfl (fun h_ => h_) HA10.out)
   generalize hN1e : wr.heap.size = N1 at *
   generalize hN2e : w8.heap.size = N2 at *
   generalize hN3e : w9.heap.size = N3 at *
   generalize hN4e : w10.heap.size = N4 at *
   clear HW10 HWb10 HC HCb HA10 HI10 HP10 HB10 HS8 HS9 HS10 HN0 HN1 hN1e hN2e hN3e hN4e HS0 HB8 HB9
   have hlen : A1.length = W1.length := by have := congrArg List.length hWA; rw [List.length_map, List.length_map] at this; omega
   have hq1 : ((A1.length : Int) != (W1.length : Int)) = false := bne_eq_false_iff_eq.2 (by omega)
   have hq2 : (r3 != r3) = false := bne_self_eq_false r3
   have HLEN := Aside0.mk hlen
   clear hlen
   have HY := Aside0.mk (mq_Y.mk (i := 0) HZ.out (by rw [mq_L_zero]; exact HAO.out) HAb10.out)
   go_upto_region 14 with (first
    | (go_at_call 52; (with_reducible refine (foghornref20_Numbers.calls (r2.length + 1) Ab cb r2 Awb cwb r2 true _ (Kd.R_reads' HAb10.out).2.2 (Kd.R_reads' HAb10.out).2.1 (Kd.R_reads' HZ.out.hWb).2.2 (Kd.R_reads' HZ.out.hWb).2.1 (mq_numbers_ex r2 (by omega) _ (by omega))).mono ?_); rintro e w11 ⟨rfl, ⟨nd, rfl⟩⟩; have HZ1 := Aside0.mk (HZ.out.below (pw_below_drewN (Below.refl _ _) nd)); have HA1 := Aside0.mk (Kd.S_drewN HAO.out nd); have HAb1 := Aside0.mk (Kd.R_drewN HAb10.out nd); clear HZ HAO HAb10)
    | (go_at_call 52; (with_reducible refine (foghornref20_Numbers.calls (r2.length + 1) Acb ccb r2 Awb cwb r2 true _ (Kd.R_reads' HZ1.out.hCb).2.2 (Kd.R_reads' HZ1.out.hCb).2.1 (Kd.R_reads' HZ1.out.hWb).2.2 (Kd.R_reads' HZ1.out.hWb).2.1 (mq_numbers_ex r2 (by omega) _ (by omega))).mono ?_); rintro e w11 ⟨rfl, ⟨nd2, rfl⟩⟩; have HZ2 := Aside0.mk (HZ1.out.below (pw_below_drewN (Below.refl _ _) nd2)); have HA2 := Aside0.mk (Kd.S_drewN HA1.out nd2); have HAb2 := Aside0.mk (Kd.R_drewN HAb1.out nd2); clear HZ1 HA1 HAb1))
   clear HZ2 HA2 HAb2
   have HN3 := Aside0.mk hlA
   clear hq1 hq2
   go_wp2
   go_loopg [21] (A1.length + 1) (fun kq v21 w' => ∃ i : Nat, v21 = .int .i64 (i : Int) ∧ Aside0 (i + kq = A1.length + 1 ∧ i ≤ A1.length) ∧ Aside0 (mq_Y w w' N0 N1 N2 N3 N4 l0 l2 W1 A1 r2 Ai Ap Aw Awb Ac Acb Aa Ab ci cp cw cwb cc ccb ca cb i))
   case atStart => exact ⟨0, rfl, ⟨by omega, Nat.zero_le _⟩, ⟨HY.out.below (pw_below_drewN (Below.refl _ _) _)⟩⟩
   case round =>
    clear HY
    obtain ⟨i, rfl, HK, HY⟩ := hrel
    cases gk with
    | zero => have := HK.out; omega
    | succ k1 =>
    by_cases hi : i < A1.length
    ·have hlt : decide (i < A1.length) = true := decide_eq_true hi
     have hlt' : decide ((i : Int) < (A1.length : Int)) = true := decide_eq_true (by omega)
     obtain ⟨x, hx⟩ : ∃ x, A1[i]? = some x := ⟨_, List.getElem?_eq_getElem hi⟩
     have HXL := Aside0.mk (hlA x (List.mem_of_getElem? hx))
     have HX := Aside0.mk hx
     have HILT := Aside0.mk hi
     obtain ⟨ada, adw, adc, rfl, rfl, rfl⟩ := HY.out.some_ HLEN.out (by omega)
     have hp0 : (0 ≤ (i : Int)) = True := eq_true (by omega)
     have hp1 : ((i : Int) < (A1.length : Int)) = True := eq_true (by omega)
     have hp2 : (i < A1.length) = True := eq_true hi
     have hp3 : ((i : Int) < (W1.length : Int)) = True := eq_true (by have := HLEN.out; omega)
     have hp4 : (i < W1.length) = True := eq_true (by have := HLEN.out; omega)
     clear hi hx
     have HYd := Aside0.mk HY.out.drew
     obtain ⟨B1, d1, B2, d2, hE1⟩ := HYd.out.atA i x (Nat.le_refl _) HX.out
     obtain ⟨C1, e1, C2, e2, hE2⟩ := HYd.out.atW hWA i x HX.out
     have HE1 := Aside0.mk hE1
     have HE2 := Aside0.mk hE2
     clear hE1 hE2 HY
     go_upto_region 17 with (fail)
     refine start_ (n := 10) (S := fun w' => w'.cell? (ada.add (i * 3)) = some (.string x.f0) ∧ w'.cell? ⟨(ada.add (i * 3)).block, (ada.add (i * 3)).off + 1, none⟩ = some (.slice B1 x.f1.length d1) ∧ w'.cell? ⟨(ada.add (i * 3)).block, (ada.add (i * 3)).off + 2, none⟩ = some (.slice B2 x.f2.length d2) ∧ w'.cell? (adw.add (i * 3)) = some (.string x.f0) ∧ w'.cell? ⟨(adw.add (i * 3)).block, (adw.add (i * 3)).off + 1, none⟩ = some (.slice C1 x.f1.length e1) ∧ w'.cell? ⟨(adw.add (i * 3)).block, (adw.add (i * 3)).off + 2, none⟩ = some (.slice C2 x.f2.length e2)) (ds := [8]) #[false, false, false, false, false, false, false, false, false, false] (by kernel_rfl) rfl rfl ⟨HE1.out.1, HE1.out.2.1, HE1.out.2.2.1, HE2.out.1, HE2.out.2.1, HE2.out.2.2.1⟩ (fun hHeld => ?_)
     refine pz_ 0 122 ?_ T12m0_ rfl rfl (by kernel_rfl) ?_ ?_ ?_ ?_; rotate_left; intro w'; go_simp; with_reducible rfl; rotate_left; simp only [nm_]; rfl
     refine pz_ 1 123 ?_ T12m1_ rfl rfl (by kernel_rfl) ?_ ?_ ?_ ?_; rotate_left; intro w'; go_simp; with_reducible rfl; rotate_left; simp only [nm_]; rfl
     refine pz_ 2 124 ?_ #[true, true, true, false, false, false, false, false, false, false] rfl rfl (by kernel_rfl) ?_ ?_ ?_ ?_; rotate_left; intro w'; go_simp; with_reducible rfl; rotate_left; simp only [nm_]; rfl
     refine pz_ 4 126 ?_ #[true, true, true, false, true, false, false, false, false, false] rfl rfl (by kernel_rfl) ?_ ?_ ?_ ?_; rotate_left; intro w'; go_simp; with_reducible rfl; rotate_left; simp only [nm_]; rfl
     refine pz_ 5 127 ?_ #[true, true, true, false, true, true, false, false, false, false] rfl rfl (by kernel_rfl) ?_ ?_ ?_ ?_; rotate_left; intro w'; go_simp; with_reducible rfl; rotate_left; simp only [nm_]; rfl
     refine pz_ 6 128 ?_ #[true, true, true, false, true, true, true, false, false, false] rfl rfl (by kernel_rfl) ?_ ?_ ?_ ?_; rotate_left; intro w'; go_simp; with_reducible rfl; rotate_left; simp only [nm_]; rfl
     refine tz_ 3 125 ?_ #[true, true, true, true, true, true, true, false, false, false] rfl rfl (by kernel_rfl) ?_ hHeld ?_ ?_ ?_; rotate_left; rintro w' ⟨s0, s1, s2, s3, s4, s5⟩; go_simp; with_reducible rfl; rotate_left; simp only [nm_]; rfl
     refine tz_ 7 129 ?_ #[true, true, true, true, true, true, true, true, false, false] rfl rfl (by kernel_rfl) ?_ hHeld ?_ ?_ ?_; rotate_left; rintro w' ⟨s0, s1, s2, s3, s4, s5⟩; go_simp; with_reducible rfl; rotate_left; simp only [nm_]; rfl
     refine last_ (i := 8) (N := some 130) #[true, true, true, true, true, true, true, true, true, false] rfl rfl (by kernel_rfl) (by decide) (fun K hK => ?_)
     refine goes_ Try.func56 (by kernel_rfl) rfl #[.agg #[.string x.f0, .slice B1 x.f1.length d1, .slice B2 x.f2.length d2], .agg #[.string x.f0, .slice C1 x.f1.length e1, .slice C2 x.f2.length e2]] (by rfl) rfl rfl (by simp only [List.map_toArray, List.map_cons, List.map_nil]; rfl) ?_
     with_reducible refine (HE1.out.calls HE2.out HXL.out).mono ?_
     rintro e w3 ⟨rfl, hb⟩
     refine ⟨_, rfl, ?_⟩
     have HY3 := Aside0.mk (HYd.out.below hb)
     clear hb
     refine hK.out _ _ ?_
     clear hK K
     refine norm_ (a' := ?_) ?_ ?_
     rotate_left
     ·show Act.put _ (some 130) _ = _
      simp only [nm_]
      rfl
     refine pz_ 9 131 ?_ #[true, true, true, true, true, true, true, true, true, true] rfl rfl (by kernel_rfl) ?_ ?_ ?_ ?_; rotate_left; intro w'; go_simp; with_reducible rfl; rotate_left; simp only [nm_]; rfl
     refine done_ (by kernel_rfl) ?_
     clear HYd HE1 HE2
     obtain ⟨P1, P2, B1, d1, B2, d2, hc0, hc1, hc2, hR1, hR2, hP12, hback⟩ := HY3.out.spoilt x HX.out
     have HR1 := Aside0.mk hR1
     have HR2 := Aside0.mk hR2
     have HP12 := Aside0.mk hP12
     have HP21 := Aside0.mk (show ∀ k_, P2 k_ → ¬ P1 k_ from fun k_ h1_ h2_ => hP12 k_ h2_ h1_)
     have HBK := Aside0.mk hback
     clear hR1 hR2 hP12 hback
     obtain ⟨ks, hks⟩ := mq_spoil x.f0 x.f1 x.f2 HXL.out.1 HXL.out.2
     have HKS := Aside0.mk hks
     clear hks
     go_wp2_with (first
      | (go_at_call 57; (with_reducible refine (foghornlaw20_spoil.calls ks x.f0 P1 _ x.f1 P2 _ x.f2 w _ HY3.out.z.hB HR1.out HP12.out HR2.out HP21.out HKS.out).mono ?_); rintro e w4 ⟨rfl, hb, hk⟩; have HY4 := Aside0.mk (HBK.out w4 hb hk); clear hb hk))
     have hlw : ((A1.length : Int) = (W1.length : Int)) := by have := HLEN.out; omega
     clear hc0 hc1 hc2 HR1 HR2 HP12 HP21 HBK HKS hp0 hp1 hp2 hp3 hp4 hlt hlt' HY3
     go_loopg [22] (A1.length + 1) (fun kq v22 w' => ∃ j : Nat, v22 = .int .i64 (j : Int) ∧ Aside0 (j + kq = A1.length + 1 ∧ j ≤ A1.length) ∧ Aside0 (mq_Y w w' N0 N1 N2 N3 N4 l0 l2 W1 A1 r2 Ai Ap (some adw) Awb (some adc) Acb (some ada) Ab ci cp cw cwb cc ccb ca cb (i + 1)))
     case atStart => exact ⟨0, rfl, ⟨by omega, Nat.zero_le _⟩, HY4⟩
     case round =>
      clear HY4 hlw
      obtain ⟨j, rfl, HJ, HY⟩ := hrel
      cases gk with
      | zero => have := HJ.out; omega
      | succ k2 =>
      by_cases hj : j < A1.length
      ·have hlt : decide (j < A1.length) = true := decide_eq_true hj
       have hlt' : decide ((j : Int) < (A1.length : Int)) = true := decide_eq_true (by omega)
       obtain ⟨y, hy⟩ : ∃ y, A1[j]? = some y := ⟨_, List.getElem?_eq_getElem hj⟩
       have HYL := Aside0.mk (hlA y (List.mem_of_getElem? hy))
       have HY_ := Aside0.mk hy
       have HJLT := Aside0.mk hj
       have hp0 : (0 ≤ (j : Int)) = True := eq_true (by omega)
       have hp1 : ((j : Int) < (A1.length : Int)) = True := eq_true (by omega)
       have hp2 : (j < A1.length) = True := eq_true hj
       have hp3 : ((j : Int) < (W1.length : Int)) = True := eq_true (by have := HLEN.out; omega)
       have hp4 : (j < W1.length) = True := eq_true (by have := HLEN.out; omega)
       clear hj hy
       have HYd := Aside0.mk HY.out.drew
       obtain ⟨C1, e1, C2, e2, hE2⟩ := HYd.out.atW hWA j y HY_.out
       obtain ⟨D1, f1, D2, f2, hE3⟩ := HYd.out.atC j y HY_.out
       have HE2 := Aside0.mk hE2
       have HE3 := Aside0.mk hE3
       clear hE2 hE3 HY
       by_cases hij : i < j
       ·have hg1 : decide (i < j) = true := decide_eq_true hij
        have hg2 : decide ((i : Int) < (j : Int)) = true := decide_eq_true (by omega)
        have hg3 : decide ((j : Int) > (i : Int)) = true := decide_eq_true (by omega)
        obtain ⟨B1, d1, B2, d2, hE1⟩ := HYd.out.atA j y (by omega) HY_.out
        have HE1 := Aside0.mk hE1
        clear hE1 hij
        go_upto_region 23 with (fail)
        refine start_ (n := 27) (S := fun w' => w'.cell? (ada.add (j * 3)) = some (.string y.f0) ∧ w'.cell? ⟨(ada.add (j * 3)).block, (ada.add (j * 3)).off + 1, none⟩ = some (.slice B1 y.f1.length d1) ∧ w'.cell? ⟨(ada.add (j * 3)).block, (ada.add (j * 3)).off + 2, none⟩ = some (.slice B2 y.f2.length d2) ∧ w'.cell? (adw.add (j * 3)) = some (.string y.f0) ∧ w'.cell? ⟨(adw.add (j * 3)).block, (adw.add (j * 3)).off + 1, none⟩ = some (.slice C1 y.f1.length e1) ∧ w'.cell? ⟨(adw.add (j * 3)).block, (adw.add (j * 3)).off + 2, none⟩ = some (.slice C2 y.f2.length e2) ∧ w'.cell? (adc.add (j * 3)) = some (.string y.f0) ∧ w'.cell? ⟨(adc.add (j * 3)).block, (adc.add (j * 3)).off + 1, none⟩ = some (.slice D1 y.f1.length f1) ∧ w'.cell? ⟨(adc.add (j * 3)).block, (adc.add (j * 3)).off + 2, none⟩ = some (.slice D2 y.f2.length f2)) (ds := [24]) #[false, false, false, false, false, false, false, false, false, false, false, false, false, false, false, false, false, false, false, false, false, false, false, false, false, false, false] (by kernel_rfl) rfl rfl ⟨HE1.out.1, HE1.out.2.1, HE1.out.2.2.1, HE2.out.1, HE2.out.2.1, HE2.out.2.2.1, HE3.out.1, HE3.out.2.1, HE3.out.2.2.1⟩ (fun hHeld => ?_)
        refine pz_ 0 143 ?_ T12m2_ rfl rfl (by kernel_rfl) ?_ ?_ ?_ ?_; rotate_left; intro w'; go_simp; with_reducible rfl; rotate_left; simp only [nm_]; rfl
        refine pz_ 1 144 ?_ T12m3_ rfl rfl (by kernel_rfl) ?_ ?_ ?_ ?_; rotate_left; intro w'; go_simp; with_reducible rfl; rotate_left; simp only [nm_]; rfl
        refine pz_ 2 145 ?_ T12m4_ rfl rfl (by kernel_rfl) ?_ ?_ ?_ ?_; rotate_left; intro w'; go_simp; with_reducible rfl; rotate_left; simp only [nm_]; rfl
        refine pz_ 3 146 ?_ T12m5_ rfl rfl (by kernel_rfl) ?_ ?_ ?_ ?_; rotate_left; intro w'; go_simp; with_reducible rfl; rotate_left; simp only [nm_]; rfl
        refine pz_ 4 147 ?_ T12m6_ rfl rfl (by kernel_rfl) ?_ ?_ ?_ ?_; rotate_left; intro w'; go_simp; with_reducible rfl; rotate_left; simp only [nm_]; rfl
        refine pz_ 5 148 ?_ T12m7_ rfl rfl (by kernel_rfl) ?_ ?_ ?_ ?_; rotate_left; intro w'; go_simp; with_reducible rfl; rotate_left; simp only [nm_]; rfl
        refine pz_ 6 149 ?_ T12m8_ rfl rfl (by kernel_rfl) ?_ ?_ ?_ ?_; rotate_left; intro w'; go_simp; with_reducible rfl; rotate_left; simp only [nm_]; rfl
        refine pz_ 8 151 ?_ T12m9_ rfl rfl (by kernel_rfl) ?_ ?_ ?_ ?_; rotate_left; intro w'; go_simp; with_reducible rfl; rotate_left; simp only [nm_]; rfl
        refine pz_ 9 152 ?_ T12m10_ rfl rfl (by kernel_rfl) ?_ ?_ ?_ ?_; rotate_left; intro w'; go_simp; with_reducible rfl; rotate_left; simp only [nm_]; rfl
        refine pz_ 10 153 ?_ T12m11_ rfl rfl (by kernel_rfl) ?_ ?_ ?_ ?_; rotate_left; intro w'; go_simp; with_reducible rfl; rotate_left; simp only [nm_]; rfl
        refine tz_ 7 150 ?_ T12m12_ rfl rfl (by kernel_rfl) ?_ hHeld ?_ ?_ ?_; rotate_left; rintro w' ⟨s0, s1, s2, s3, s4, s5, s6, s7, s8⟩; go_simp; with_reducible rfl; rotate_left; simp only [nm_]; rfl
        refine tz_ 11 154 ?_ T12m13_ rfl rfl (by kernel_rfl) ?_ hHeld ?_ ?_ ?_; rotate_left; rintro w' ⟨s0, s1, s2, s3, s4, s5, s6, s7, s8⟩; go_simp; with_reducible rfl; rotate_left; simp only [nm_]; rfl
        refine one_ (i := 12) (N := some 155) #[true, true, true, true, true, true, true, true, true, true, true, true, true, false, false, false, false, false, false, false, false, false, false, false, false, false, false] rfl rfl (by kernel_rfl) (by decide) (fun K hK => ?_)
        refine goes_ Try.func56 (by kernel_rfl) rfl #[.agg #[.string y.f0, .slice B1 y.f1.length d1, .slice B2 y.f2.length d2], .agg #[.string y.f0, .slice C1 y.f1.length e1, .slice C2 y.f2.length e2]] (by rfl) rfl rfl (by simp only [List.map_toArray, List.map_cons, List.map_nil]; rfl) ?_
        with_reducible refine (HE1.out.calls HE2.out HYL.out).mono ?_
        rintro e w5 ⟨rfl, hb⟩
        refine ⟨_, rfl, ?_⟩
        have HY5 := Aside0.mk (HYd.out.below hb)
        have HF2 := Aside0.mk (HE2.out.below hb)
        have HF3 := Aside0.mk (HE3.out.below hb)
        have HF1 := Aside0.mk (HE1.out.below hb)
        clear hb
        refine hK.out _ _ ⟨HF1.out.1, HF1.out.2.1, HF1.out.2.2.1, HF2.out.1, HF2.out.2.1, HF2.out.2.2.1, HF3.out.1, HF3.out.2.1, HF3.out.2.2.1⟩ (fun hHeld => ?_)
        clear hK K
        refine norm_ (a' := ?_) ?_ ?_
        rotate_left
        ·show Act.put _ (some 155) _ = _
         simp only [nm_]
         rfl
        refine pz_ 13 156 ?_ T12m14_ rfl rfl (by kernel_rfl) ?_ ?_ ?_ ?_; rotate_left; intro w'; go_simp; with_reducible rfl; rotate_left; simp only [nm_]; rfl
        refine pz_ 14 157 ?_ T12m15_ rfl rfl (by kernel_rfl) ?_ ?_ ?_ ?_; rotate_left; intro w'; go_simp; with_reducible rfl; rotate_left; simp only [nm_]; rfl
        refine pz_ 15 158 ?_ T12m16_ rfl rfl (by kernel_rfl) ?_ ?_ ?_ ?_; rotate_left; intro w'; go_simp; with_reducible rfl; rotate_left; simp only [nm_]; rfl
        refine pz_ 16 159 ?_ T12m17_ rfl rfl (by kernel_rfl) ?_ ?_ ?_ ?_; rotate_left; intro w'; go_simp; with_reducible rfl; rotate_left; simp only [nm_]; rfl
        refine pz_ 17 160 ?_ T12m18_ rfl rfl (by kernel_rfl) ?_ ?_ ?_ ?_; rotate_left; intro w'; go_simp; with_reducible rfl; rotate_left; simp only [nm_]; rfl
        refine pz_ 18 161 ?_ T12m19_ rfl rfl (by kernel_rfl) ?_ ?_ ?_ ?_; rotate_left; intro w'; go_simp; with_reducible rfl; rotate_left; simp only [nm_]; rfl
        refine pz_ 20 163 ?_ T12m20_ rfl rfl (by kernel_rfl) ?_ ?_ ?_ ?_; rotate_left; intro w'; go_simp; with_reducible rfl; rotate_left; simp only [nm_]; rfl
        refine pz_ 21 164 ?_ T12m21_ rfl rfl (by kernel_rfl) ?_ ?_ ?_ ?_; rotate_left; intro w'; go_simp; with_reducible rfl; rotate_left; simp only [nm_]; rfl
        refine pz_ 22 165 ?_ T12m22_ rfl rfl (by kernel_rfl) ?_ ?_ ?_ ?_; rotate_left; intro w'; go_simp; with_reducible rfl; rotate_left; simp only [nm_]; rfl
        refine tz_ 19 162 ?_ T12m23_ rfl rfl (by kernel_rfl) ?_ hHeld ?_ ?_ ?_; rotate_left; rintro w' ⟨s0, s1, s2, s3, s4, s5, s6, s7, s8⟩; go_simp; with_reducible rfl; rotate_left; simp only [nm_]; rfl
        refine tz_ 23 166 ?_ T12m24_ rfl rfl (by kernel_rfl) ?_ hHeld ?_ ?_ ?_; rotate_left; rintro w' ⟨s0, s1, s2, s3, s4, s5, s6, s7, s8⟩; go_simp; with_reducible rfl; rotate_left; simp only [nm_]; rfl
        refine last_ (i := 24) (N := some 167) #[true, true, true, true, true, true, true, true, true, true, true, true, true, true, true, true, true, true, true, true, true, true, true, true, true, false, false] rfl rfl (by kernel_rfl) (by decide) (fun K hK => ?_)
        refine goes_ Try.func56 (by kernel_rfl) rfl #[.agg #[.string y.f0, .slice D1 y.f1.length f1, .slice D2 y.f2.length f2], .agg #[.string y.f0, .slice C1 y.f1.length e1, .slice C2 y.f2.length e2]] (by rfl) rfl rfl (by simp only [List.map_toArray, List.map_cons, List.map_nil]; rfl) ?_
        with_reducible refine (HF3.out.calls HF2.out HYL.out).mono ?_
        rintro e w6 ⟨rfl, hb⟩
        refine ⟨_, rfl, ?_⟩
        have HY6 := Aside0.mk (HY5.out.below hb)
        clear hb
        refine hK.out _ _ ?_
        clear hK K
        refine norm_ (a' := ?_) ?_ ?_
        rotate_left
        ·show Act.put _ (some 167) _ = _
         simp only [nm_]
         rfl
        refine pz_ 25 168 ?_ T12m25_ rfl rfl (by kernel_rfl) ?_ ?_ ?_ ?_; rotate_left; intro w'; go_simp; with_reducible rfl; rotate_left; simp only [nm_]; rfl
        refine pz_ 26 169 ?_ T12m26_ rfl rfl (by kernel_rfl) ?_ ?_ ?_ ?_; rotate_left; intro w'; go_simp; with_reducible rfl; rotate_left; simp only [nm_]; rfl
        refine done_ (by kernel_rfl) ?_
        go_wp2
        go_roundg k2
        case measure => omega
        case rel => exact ⟨j + 1, (by first | rfl | exact congrArg (fun y => Value.int .i64 y) (show wrap64 ((j : Int) + 1) = ((j + 1 : Nat) : Int) from by have := HJLT.out; unfold wrap64; omega)), ⟨by have := HJ.out; have := HJLT.out; omega⟩, HY6⟩
       ·have hg1 : decide (i < j) = false := decide_eq_false hij
        have hg2 : decide ((i : Int) < (j : Int)) = false := decide_eq_false (by omega)
        have hg3 : decide ((j : Int) > (i : Int)) = false := decide_eq_false (by omega)
        clear hij
        go_upto_region 23 with (fail)
        refine start_ (n := 27) (S := fun w' => w'.cell? (adw.add (j * 3)) = some (.string y.f0) ∧ w'.cell? ⟨(adw.add (j * 3)).block, (adw.add (j * 3)).off + 1, none⟩ = some (.slice C1 y.f1.length e1) ∧ w'.cell? ⟨(adw.add (j * 3)).block, (adw.add (j * 3)).off + 2, none⟩ = some (.slice C2 y.f2.length e2) ∧ w'.cell? (adc.add (j * 3)) = some (.string y.f0) ∧ w'.cell? ⟨(adc.add (j * 3)).block, (adc.add (j * 3)).off + 1, none⟩ = some (.slice D1 y.f1.length f1) ∧ w'.cell? ⟨(adc.add (j * 3)).block, (adc.add (j * 3)).off + 2, none⟩ = some (.slice D2 y.f2.length f2)) (ds := [24]) #[false, false, false, false, false, false, false, false, false, false, false, false, false, false, false, false, false, false, false, false, false, false, false, false, false, false, false] (by kernel_rfl) rfl rfl ⟨HE2.out.1, HE2.out.2.1, HE2.out.2.2.1, HE3.out.1, HE3.out.2.1, HE3.out.2.2.1⟩ (fun hHeld => ?_)
        refine pz_ 0 143 ?_ T12m2_ rfl rfl (by kernel_rfl) ?_ ?_ ?_ ?_; rotate_left; intro w'; go_simp; with_reducible rfl; rotate_left; simp only [nm_]; rfl
        refine pz_ 1 144 ?_ T12m3_ rfl rfl (by kernel_rfl) ?_ ?_ ?_ ?_; rotate_left; intro w'; go_simp; with_reducible rfl; rotate_left; simp only [nm_]; rfl
        refine pz_ 2 145 ?_ T12m4_ rfl rfl (by kernel_rfl) ?_ ?_ ?_ ?_; rotate_left; intro w'; go_simp; with_reducible rfl; rotate_left; simp only [nm_]; rfl
        refine pz_ 3 146 ?_ T12m5_ rfl rfl (by kernel_rfl) ?_ ?_ ?_ ?_; rotate_left; intro w'; go_simp; with_reducible rfl; rotate_left; simp only [nm_]; rfl
        refine pure_ (i := 4) (N := some 147) (v := undef) (a' := ?_) T12m6_ rfl rfl (by kernel_rfl) (fun _ _ _ h => h) (Or.inr ⟨by rfl, rfl⟩) ?_ ?_
        rotate_left
        ·simp only [nm_]
         rfl
        refine pure_ (i := 5) (N := some 148) (v := undef) (a' := ?_) T12m7_ rfl rfl (by kernel_rfl) (fun _ _ _ h => h) (Or.inr ⟨by rfl, rfl⟩) ?_ ?_
        rotate_left
        ·simp only [nm_]
         rfl
        refine pure_ (i := 6) (N := some 149) (v := undef) (a' := ?_) T12m8_ rfl rfl (by kernel_rfl) (fun _ _ _ h => h) (Or.inr ⟨by rfl, rfl⟩) ?_ ?_
        rotate_left
        ·simp only [nm_]
         rfl
        refine pure_ (i := 7) (N := some 150) (v := undef) (a' := ?_) T12m27_ rfl rfl (by kernel_rfl) (fun _ _ _ h => h) (Or.inr ⟨by rfl, rfl⟩) ?_ ?_
        rotate_left
        ·simp only [nm_]
         rfl
        refine pure_ (i := 8) (N := some 151) (v := undef) (a' := ?_) T12m28_ rfl rfl (by kernel_rfl) (fun _ _ _ h => h) (Or.inr ⟨by rfl, rfl⟩) ?_ ?_
        rotate_left
        ·simp only [nm_]
         rfl
        refine pure_ (i := 9) (N := some 152) (v := undef) (a' := ?_) T12m29_ rfl rfl (by kernel_rfl) (fun _ _ _ h => h) (Or.inr ⟨by rfl, rfl⟩) ?_ ?_
        rotate_left
        ·simp only [nm_]
         rfl
        refine pure_ (i := 10) (N := some 153) (v := undef) (a' := ?_) T12m12_ rfl rfl (by kernel_rfl) (fun _ _ _ h => h) (Or.inr ⟨by rfl, rfl⟩) ?_ ?_
        rotate_left
        ·simp only [nm_]
         rfl
        refine pure_ (i := 11) (N := some 154) (v := undef) (a' := ?_) T12m13_ rfl rfl (by kernel_rfl) (fun _ _ _ h => h) (Or.inr ⟨by rfl, rfl⟩) ?_ ?_
        rotate_left
        ·simp only [nm_]
         rfl
        refine pure_ (i := 12) (N := some 155) (v := undef) (a' := ?_) T12m30_ rfl rfl (by kernel_rfl) (fun _ _ _ h => h) (Or.inr ⟨by rfl, rfl⟩) ?_ ?_
        rotate_left
        ·simp only [nm_]
         rfl
        refine pure_ (i := 13) (N := some 156) (v := undef) (a' := ?_) T12m14_ rfl rfl (by kernel_rfl) (fun _ _ _ h => h) (Or.inr ⟨by rfl, rfl⟩) ?_ ?_
        rotate_left
        ·simp only [nm_]
         rfl
        refine pz_ 14 157 ?_ T12m15_ rfl rfl (by kernel_rfl) ?_ ?_ ?_ ?_; rotate_left; intro w'; go_simp; with_reducible rfl; rotate_left; simp only [nm_]; rfl
        refine pz_ 15 158 ?_ T12m16_ rfl rfl (by kernel_rfl) ?_ ?_ ?_ ?_; rotate_left; intro w'; go_simp; with_reducible rfl; rotate_left; simp only [nm_]; rfl
        refine pz_ 16 159 ?_ T12m17_ rfl rfl (by kernel_rfl) ?_ ?_ ?_ ?_; rotate_left; intro w'; go_simp; with_reducible rfl; rotate_left; simp only [nm_]; rfl
        refine pz_ 17 160 ?_ T12m18_ rfl rfl (by kernel_rfl) ?_ ?_ ?_ ?_; rotate_left; intro w'; go_simp; with_reducible rfl; rotate_left; simp only [nm_]; rfl
        refine pz_ 18 161 ?_ T12m19_ rfl rfl (by kernel_rfl) ?_ ?_ ?_ ?_; rotate_left; intro w'; go_simp; with_reducible rfl; rotate_left; simp only [nm_]; rfl
        refine pz_ 20 163 ?_ T12m20_ rfl rfl (by kernel_rfl) ?_ ?_ ?_ ?_; rotate_left; intro w'; go_simp; with_reducible rfl; rotate_left; simp only [nm_]; rfl
        refine pz_ 21 164 ?_ T12m21_ rfl rfl (by kernel_rfl) ?_ ?_ ?_ ?_; rotate_left; intro w'; go_simp; with_reducible rfl; rotate_left; simp only [nm_]; rfl
        refine pz_ 22 165 ?_ T12m22_ rfl rfl (by kernel_rfl) ?_ ?_ ?_ ?_; rotate_left; intro w'; go_simp; with_reducible rfl; rotate_left; simp only [nm_]; rfl
        refine tz_ 19 162 ?_ T12m23_ rfl rfl (by kernel_rfl) ?_ hHeld ?_ ?_ ?_; rotate_left; rintro w' ⟨s0, s1, s2, s3, s4, s5⟩; go_simp; with_reducible rfl; rotate_left; simp only [nm_]; rfl
        refine tz_ 23 166 ?_ T12m24_ rfl rfl (by kernel_rfl) ?_ hHeld ?_ ?_ ?_; rotate_left; rintro w' ⟨s0, s1, s2, s3, s4, s5⟩; go_simp; with_reducible rfl; rotate_left; simp only [nm_]; rfl
        refine last_ (i := 24) (N := some 167) #[true, true, true, true, true, true, true, true, true, true, true, true, true, true, true, true, true, true, true, true, true, true, true, true, true, false, false] rfl rfl (by kernel_rfl) (by decide) (fun K hK => ?_)
        refine goes_ Try.func56 (by kernel_rfl) rfl #[.agg #[.string y.f0, .slice D1 y.f1.length f1, .slice D2 y.f2.length f2], .agg #[.string y.f0, .slice C1 y.f1.length e1, .slice C2 y.f2.length e2]] (by rfl) rfl rfl (by simp only [List.map_toArray, List.map_cons, List.map_nil]; rfl) ?_
        with_reducible refine (HE3.out.calls HE2.out HYL.out).mono ?_
        rintro e w6 ⟨rfl, hb⟩
        refine ⟨_, rfl, ?_⟩
        have HY6 := Aside0.mk (HYd.out.below hb)
        clear hb
        refine hK.out _ _ ?_
        clear hK K
        refine norm_ (a' := ?_) ?_ ?_
        rotate_left
        ·show Act.put _ (some 167) _ = _
         simp only [nm_]
         rfl
        refine pz_ 25 168 ?_ T12m25_ rfl rfl (by kernel_rfl) ?_ ?_ ?_ ?_; rotate_left; intro w'; go_simp; with_reducible rfl; rotate_left; simp only [nm_]; rfl
        refine pz_ 26 169 ?_ T12m26_ rfl rfl (by kernel_rfl) ?_ ?_ ?_ ?_; rotate_left; intro w'; go_simp; with_reducible rfl; rotate_left; simp only [nm_]; rfl
        refine done_ (by kernel_rfl) ?_
        go_wp2
        go_roundg k2
        case measure => omega
        case rel => exact ⟨j + 1, (by first | rfl | exact congrArg (fun y => Value.int .i64 y) (show wrap64 ((j : Int) + 1) = ((j + 1 : Nat) : Int) from by have := HJLT.out; unfold wrap64; omega)), ⟨by have := HJ.out; have := HJLT.out; omega⟩, HY6⟩
      ·have hlt : decide (j < A1.length) = false := decide_eq_false hj
       have hlt' : decide ((j : Int) < (A1.length : Int)) = false := decide_eq_false (by omega)
       clear hj
       go_wp2
       go_roundg k1
       case measure => omega
       case rel => exact ⟨i + 1, (by first | rfl | exact congrArg (fun y => Value.int .i64 y) (show wrap64 ((i : Int) + 1) = ((i + 1 : Nat) : Int) from by have := HILT.out; unfold wrap64; omega)), ⟨by have := HK.out; have := HILT.out; omega⟩, HY⟩
    ·have hlt : decide (i < A1.length) = false := decide_eq_false hi
     have hlt' : decide ((i : Int) < (A1.length : Int)) = false := decide_eq_false (by omega)
     clear hi
     have HZ := Aside0.mk HY.out.z
     have HBb := Aside0.mk HY.out.b
     clear HY
     go_wp2
     go_loopg [23] (r2.length + 1) (fun kq v23 w' => ∃ (i : Nat) (bl : List Int), v23 = .int .i64 (i : Int) ∧ Aside0 (i + kq = r2.length + 1 ∧ i ≤ r2.length ∧ bl.length = r2.length) ∧ Aside0 (mq_Z w w' N0 N1 N2 N3 N4 l0 l2 W1 A1 r2 Ai Ap Aw Awb Ac Acb ci cp cw cwb cc ccb) ∧ Aside0 (Kd.R (Kd.int .i64) 3 w' w.heap.size (fun k_ => (N2 ≤ k_ ∧ k_ < N3) ∧ some k_ = (Value.slice Ab r2.length cb).ownBlock) (.slice Ab r2.length cb) bl))
     case atStart => exact ⟨0, r2, rfl, ⟨by omega, Nat.zero_le _, rfl⟩, HZ, HBb⟩
     case round =>
      clear HZ HBb hlt hlt'
      obtain ⟨i2, bl, rfl, HK2, HZ, HBb⟩ := hrel
      cases gk with
      | zero => have := HK2.out; omega
      | succ k2 =>
      by_cases hi : i2 < r2.length
      ·have hlt : decide (i2 < r2.length) = true := decide_eq_true hi
       have hlt' : decide ((i2 : Int) < (r2.length : Int)) = true := decide_eq_true (by omega)
       have HILT := Aside0.mk hi
       obtain ⟨gb, cb', eb, hgb, hgl, _⟩ := Kd.R_form HBb.out (by have := HK2.out; omega)
       injection eb with eb1 eb2 eb3
       subst eb1
       subst eb3
       clear eb2 hgl
       obtain ⟨hx, hf⟩ := Kd.R_celln 0 HBb.out (i2 : Int) (by omega) (by omega)
       rw [Int.toNat_natCast] at hx hf
       have HGB := Aside0.mk hgb
       have HPT := Aside0.mk (Kd.R_putg HBb.out (i2 : Int) (-1))
       rw [Int.toNat_natCast] at HPT
       have HOK := Aside0.mk (HBb.out.1 gb rfl).1
       have hp0 : (0 ≤ (i2 : Int)) = True := eq_true (by omega)
       have hp1 : ((i2 : Int) < (r2.length : Int)) = True := eq_true (by omega)
       have hp2 : (i2 < r2.length) = True := eq_true hi
       clear hi hgb
       go_wp2_with (first
        | ((with_reducible refine gate_store (t := 3) (p := 178) rfl ?_); refine store_event (t := 3) (p := 178) (v := ?vo_w2) (w1 := (wr.setCell ⟨gb, i2, none⟩ (.int .i64 (-1)))) ?hg ?ho ?hn ?hr ?_; (case ho => rfl); (case hg => rfl); (case hn => rfl); (case hr => first | (go_simp; done) | (go_simp; rfl)); intro w2 hw; have hg : wr.grownBy w2 (some gb) := (by rw [hw]; exact HPT.out.2); have HB2 := Aside0.mk (show Kd.R (Kd.int .i64) 3 w2 w.heap.size (fun k_ => (N2 ≤ k_ ∧ k_ < N3) ∧ some k_ = (Value.slice (some ⟨gb, 0, none⟩) r2.length cb).ownBlock) (.slice (some ⟨gb, 0, none⟩) r2.length cb) (bl.set i2 (-1)) from by rw [hw]; exact HPT.out.1); have HZ2 := Aside0.mk (HZ.out.kept (Kept.of_grown (S := fun k_ => k_ = gb) hg (Kept.refl _ _) (fun k_ e_ => .inl (Option.some.inj e_).symm)) (fun k_ e_ => by subst e_; exact HOK.out) (by rw [hw]; exact below_set HZ.out.hB HGB.out)); clear HPT hx hf hw hg HZ HBb))
       go_roundg k2
       case measure => omega
       case rel => exact ⟨i2 + 1, bl.set i2 (-1), (by first | rfl | exact congrArg (fun y => Value.int .i64 y) (show wrap64 ((i2 : Int) + 1) = ((i2 + 1 : Nat) : Int) from by have := HILT.out; unfold wrap64; omega)), ⟨by have := HK2.out; have := HILT.out; omega, HILT.out, by have := HK2.out; rw [List.length_set]; omega⟩, HZ2, HB2⟩
      ·have hlt : decide (i2 < r2.length) = false := decide_eq_false hi
       have hlt' : decide ((i2 : Int) < (r2.length : Int)) = false := decide_eq_false (by omega)
       clear hi HBb
       go_upto_region 31 with (first
        | (go_at_call 62; (with_reducible refine (foghornref20_Message.calls k A0 c0 l0 a1 A2 c2 l2 m1 m2 _ (Kd.C_below HR0.out HZ.out.hB) HC0.out (Kd.C_below HR2.out HZ.out.hB) HC2.out hM).mono ?_); rintro e w3 ⟨rfl, hb⟩; have HZ3 := Aside0.mk (HZ.out.below hb); clear hb HZ)
        | (go_at_call 63; (with_reducible refine (mend_Message.calls k Ai ci l0 a1 Ap cp l2 m1 m2 _ (Kd.U_reads' HZ3.out.hI).2.2 (Kd.U_reads' HZ3.out.hI).2.1 (mq_P_reads HZ3.out.hP) (Kd.S_reads' HZ3.out.hP).2.1 hM2).mono ?_); rintro e w4 ⟨rfl, hb⟩; have HZ4 := Aside0.mk (HZ3.out.below hb); clear hb HZ3))
       obtain ⟨adi, rfl, hci, hmk⟩ := mq_mark HZ4.out.hI
       obtain ⟨i0, hi0, _, hsz0, _⟩ := info_parts info9
       have hcut := cut_more (P := Try.prog) 41 9 .i64 Try.underlying41 hi0 (some adi) l0.length ci ((l0.length : Int) + 1) (by omega) (by omega)
       rw [show ((l0.length : Int) + 1).toNat = l0.length + 1 by omega] at hcut
       have hw1 := mq_w1 l0.length (by have := HL0.out; omega)
       have hq3 : (m1 != m1) = false := mq_bne m1
       have hq4 : (m2 != m2) = false := bne_self_eq_false m2
       clear hi0 hsz0 hci
       go_wp2_with (first
        | (go_at_call 52; (with_reducible refine (foghornref20_Numbers.calls (r2.length + 1) Acb ccb r2 Awb cwb r2 true _ (Kd.R_reads' HZ4.out.hCb).2.2 (Kd.R_reads' HZ4.out.hCb).2.1 (Kd.R_reads' HZ4.out.hWb).2.2 (Kd.R_reads' HZ4.out.hWb).2.1 (mq_numbers_ex r2 (by omega) _ (by omega))).mono ?_); rintro e w5 ⟨rfl, ⟨nd, rfl⟩⟩; have HZ5 := Aside0.mk (HZ4.out.below (pw_below_drewN (Below.refl _ _) nd))))
       go_loopg [28] (l0.length + 1) (fun kq v28 w' => ∃ i : Nat, v28 = .int .i64 (i : Int) ∧ Aside0 (i + kq = l0.length + 1 ∧ i ≤ l0.length) ∧ Aside0 (mq_Z w w' N0 N1 N2 N3 N4 l0 l2 W1 A1 r2 (some adi) Ap Aw Awb Ac Acb ci cp cw cwb cc ccb))
       case atStart => exact ⟨0, rfl, ⟨by omega, Nat.zero_le _⟩, HZ5⟩
       case round =>
        clear HZ5 HZ4 hlt hlt' hcut hw1 hq3 hq4 hmk
        obtain ⟨i3, rfl, HK3, HZ⟩ := hrel
        cases gk with
        | zero => have := HK3.out; omega
        | succ k3 =>
        by_cases hi : i3 < l0.length
        ·have hlt : decide (i3 < l0.length) = true := decide_eq_true hi
         have hlt' : decide ((i3 : Int) < (l0.length : Int)) = true := decide_eq_true (by omega)
         have HILT := Aside0.mk hi
         obtain ⟨ad0, rfl, hc0⟩ := Kd.at_string HR0.out (i3 : Int) (by omega) (by omega)
         rw [Int.toNat_natCast] at hc0
         have hc1 := mq_at_string (Kd.U_reads' HZ.out.hI).2.2 (i3 : Int) (by omega) (by omega)
         rw [Int.toNat_natCast] at hc1
         have HC0' := Aside0.mk (mq_cell hc0 HZ.out.hB)
         have HC1' := Aside0.mk hc1
         obtain ⟨x, hx⟩ : ∃ x, x = rdOf ByteArray.empty l0 (i3 : Int) := ⟨_, rfl⟩
         rw [← hx] at HC0' HC1'
         have hq : (x != x) = false := mq_bne x
         have hp0 : (0 ≤ (i3 : Int)) = True := eq_true (by omega)
         have hp1 : ((i3 : Int) < (l0.length : Int)) = True := eq_true (by omega)
         have hp2 : (i3 < l0.length) = True := eq_true hi
         clear hi hc0 hc1 hx
         have HZd := Aside0.mk (HZ.out.below (below_drew (Below.refl _ _)))
         go_upto_region 36 with (fail)
         refine start_ (n := 9) (S := fun w' => w'.cell? (adi.add i3) = some (.string x) ∧ w'.cell? (ad0.add i3) = some (.string x)) (ds := []) #[false, false, false, false, false, false, false, false, false] (by kernel_rfl) rfl rfl ⟨HC1'.out, HC0'.out⟩ (fun hHeld => ?_)
         refine pz_ 0 222 ?_ #[true, false, false, false, false, false, false, false, false] rfl rfl (by kernel_rfl) ?_ ?_ ?_ ?_; rotate_left; intro w'; go_simp; with_reducible rfl; rotate_left; simp only [nm_]; rfl
         refine pz_ 1 223 ?_ #[true, true, false, false, false, false, false, false, false] rfl rfl (by kernel_rfl) ?_ ?_ ?_ ?_; rotate_left; intro w'; go_simp; with_reducible rfl; rotate_left; simp only [nm_]; rfl
         refine pz_ 2 224 ?_ #[true, true, true, false, false, false, false, false, false] rfl rfl (by kernel_rfl) ?_ ?_ ?_ ?_; rotate_left; intro w'; go_simp; with_reducible rfl; rotate_left; simp only [nm_]; rfl
         refine pz_ 4 226 ?_ #[true, true, true, false, true, false, false, false, false] rfl rfl (by kernel_rfl) ?_ ?_ ?_ ?_; rotate_left; intro w'; go_simp; with_reducible rfl; rotate_left; simp only [nm_]; rfl
         refine pz_ 5 227 ?_ #[true, true, true, false, true, true, false, false, false] rfl rfl (by kernel_rfl) ?_ ?_ ?_ ?_; rotate_left; intro w'; go_simp; with_reducible rfl; rotate_left; simp only [nm_]; rfl
         refine pz_ 6 228 ?_ #[true, true, true, false, true, true, true, false, false] rfl rfl (by kernel_rfl) ?_ ?_ ?_ ?_; rotate_left; intro w'; go_simp; with_reducible rfl; rotate_left; simp only [nm_]; rfl
         refine tz_ 3 225 ?_ #[true, true, true, true, true, true, true, false, false] rfl rfl (by kernel_rfl) ?_ hHeld ?_ ?_ ?_; rotate_left; rintro w' ⟨s0, s1⟩; go_simp; with_reducible rfl; rotate_left; simp only [nm_]; rfl
         refine tz_ 7 229 ?_ #[true, true, true, true, true, true, true, true, false] rfl rfl (by kernel_rfl) ?_ hHeld ?_ ?_ ?_; rotate_left; rintro w' ⟨s0, s1⟩; go_simp; with_reducible rfl; rotate_left; simp only [nm_]; rfl
         refine pz_ 8 230 ?_ #[true, true, true, true, true, true, true, true, true] rfl rfl (by kernel_rfl) ?_ ?_ ?_ ?_; rotate_left; intro w'; go_simp; with_reducible rfl; rotate_left; simp only [nm_]; rfl
         refine done_ (by kernel_rfl) ?_
         go_wp2
         go_roundg k3
         case measure => omega
         case rel => exact ⟨i3 + 1, (by first | rfl | exact congrArg (fun y => Value.int .i64 y) (show wrap64 ((i3 : Int) + 1) = ((i3 + 1 : Nat) : Int) from by have := HILT.out; have := HL0.out; unfold wrap64; omega)), ⟨by have := HK3.out; have := HILT.out; omega⟩, HZd⟩
        ·have hlt : decide (i3 < l0.length) = false := decide_eq_false hi
         have hlt' : decide ((i3 : Int) < (l0.length : Int)) = false := decide_eq_false (by omega)
         clear hi
         go_wp2
         go_loopg [29] (l2.length + 1) (fun kq v29 w' => ∃ i : Nat, v29 = .int .i64 (i : Int) ∧ Aside0 (i + kq = l2.length + 1 ∧ i ≤ l2.length) ∧ Aside0 (mq_Z w w' N0 N1 N2 N3 N4 l0 l2 W1 A1 r2 (some adi) Ap Aw Awb Ac Acb ci cp cw cwb cc ccb))
         case atStart => exact ⟨0, rfl, ⟨by omega, Nat.zero_le _⟩, HZ⟩
         case round =>
          clear HZ hlt hlt'
          obtain ⟨i4, rfl, HK4, HZ⟩ := hrel
          cases gk with
          | zero => have := HK4.out; omega
          | succ k4 =>
          by_cases hi : i4 < l2.length
          ·have hlt : decide (i4 < l2.length) = true := decide_eq_true hi
           have hlt' : decide ((i4 : Int) < (l2.length : Int)) = true := decide_eq_true (by omega)
           have HILT := Aside0.mk hi
           obtain ⟨x, hx⟩ : ∃ x, l2[i4]? = some x := ⟨_, List.getElem?_eq_getElem hi⟩
           have HXL := Aside0.mk (HLX.out x (List.mem_of_getElem? hx))
           have HZd := Aside0.mk (HZ.out.below (below_drew (Below.refl _ _)))
           obtain ⟨adp, adq, cq, rfl, hpl⟩ := mq_plc HZd.out.hP i4 x hx
           obtain ⟨ad2, Al, cl, rfl, hc2, hl2, hC2⟩ := at_L9 HR2.out (i4 : Int) (by omega) (by omega)
           rw [show rd_L9 l2 (i4 : Int) = x by unfold rd_L9; rw [Int.toNat_natCast, List.getD_eq_getElem?_getD, hx]; rfl] at hc2 hl2 hC2
           rw [Int.toNat_natCast] at hc2
           have HPL := Aside0.mk hpl
           have HCX := Aside0.mk (mq_cell hc2 HZd.out.hB)
           have HCL := Aside0.mk (Kd.C_below hC2 HZd.out.hB)
           have HLC := Aside0.mk hl2
           have hp0 : (0 ≤ (i4 : Int)) = True := eq_true (by omega)
           have hp1 : ((i4 : Int) < (l2.length : Int)) = True := eq_true (by omega)
           have hp2 : (i4 < l2.length) = True := eq_true hi
           have HNB := Aside0.mk (mq_numbers_ex x (by have := HXL.out; omega) (x.length + 1) (by omega))
           have HCP := Aside0.mk (show x.length ≤ cq from by have := HPL.out.2.2.1; omega)
           have HQC := Aside0.mk HPL.out.2.2.2
           obtain ⟨i0, hi0, _, hsz0, _⟩ := info_parts info3
           have hcut := cut_more (P := Try.prog) 60 3 .i64 Try.underlying60 hi0 (some adq) x.length cq ((x.length : Int) + 1) (by omega) (by have := HPL.out.2.2.1; omega)
           rw [show ((x.length : Int) + 1).toNat = x.length + 1 by omega] at hcut
           have hw1 := mq_w1 x.length HXL.out
           have hp5 : ((x.length : Int) < (x.length : Int) + 1) = True := eq_true (by omega)
           have hp6 : (x.length < x.length + 1) = True := eq_true (by omega)
           clear hi hx hpl hc2 hl2 hC2 hi0 hsz0
           go_upto_region 41 with (fail)
           refine start_ (n := 31) (S := fun w' => w'.cell? (adp.add i4) = some (.slice (some adq) x.length cq) ∧ w'.cell? (adq.add x.length) = some (.int .i64 987) ∧ w'.cell? (ad2.add i4) = some (.slice Al x.length cl)) (ds := []) #[false, false, false, false, false, false, false, false, false, false, false, false, false, false, false, false, false, false, false, false, false, false, false, false, false, false, false, false, false, false, false] (by kernel_rfl) rfl rfl ⟨HPL.out.1, HPL.out.2.1, HCX.out⟩ (fun hHeld => ?_)
           refine pz_ 0 237 ?_ T12m31_ rfl rfl (by kernel_rfl) ?_ ?_ ?_ ?_; rotate_left; intro w'; go_simp; with_reducible rfl; rotate_left; simp only [nm_]; rfl
           refine pz_ 1 238 ?_ T12m32_ rfl rfl (by kernel_rfl) ?_ ?_ ?_ ?_; rotate_left; intro w'; go_simp; with_reducible rfl; rotate_left; simp only [nm_]; rfl
           refine pz_ 2 239 ?_ T12m33_ rfl rfl (by kernel_rfl) ?_ ?_ ?_ ?_; rotate_left; intro w'; go_simp; with_reducible rfl; rotate_left; simp only [nm_]; rfl
           refine pz_ 4 241 ?_ T12m34_ rfl rfl (by kernel_rfl) ?_ ?_ ?_ ?_; rotate_left; intro w'; go_simp; with_reducible rfl; rotate_left; simp only [nm_]; rfl
           refine pz_ 5 242 ?_ T12m35_ rfl rfl (by kernel_rfl) ?_ ?_ ?_ ?_; rotate_left; intro w'; go_simp; with_reducible rfl; rotate_left; simp only [nm_]; rfl
           refine pz_ 6 243 ?_ T12m36_ rfl rfl (by kernel_rfl) ?_ ?_ ?_ ?_; rotate_left; intro w'; go_simp; with_reducible rfl; rotate_left; simp only [nm_]; rfl
           refine tz_ 3 240 ?_ T12m37_ rfl rfl (by kernel_rfl) ?_ hHeld ?_ ?_ ?_; rotate_left; rintro w' ⟨s0, s1, s2⟩; go_simp; with_reducible rfl; rotate_left; simp only [nm_]; rfl
           refine tz_ 7 244 ?_ T12m38_ rfl rfl (by kernel_rfl) ?_ hHeld ?_ ?_ ?_; rotate_left; rintro w' ⟨s0, s1, s2⟩; go_simp; with_reducible rfl; rotate_left; simp only [nm_]; rfl
           refine one_ (i := 8) (N := some 245) #[true, true, true, true, true, true, true, true, true, false, false, false, false, false, false, false, false, false, false, false, false, false, false, false, false, false, false, false, false, false, false] rfl rfl (by kernel_rfl) (by decide) (fun K hK => ?_)
           refine goes_ Try.func52 (by kernel_rfl) rfl #[.slice (some adq) x.length cq, .slice Al x.length cl] (by rfl) rfl rfl (by simp only [List.map_toArray, List.map_cons, List.map_nil]; rfl) ?_
           with_reducible refine (foghornref20_Numbers.calls (x.length + 1) (some adq) cq x Al cl x true _ HQC.out HCP.out HCL.out HLC.out HNB.out).mono ?_
           rintro e w3 ⟨rfl, hdr⟩
           refine ⟨_, rfl, ?_⟩
           have HZ3 := Aside0.mk (HZd.out.below hdr.below)
           have HPL3 := Aside0.mk (HPL.out.below hdr.below)
           have HCX3 := Aside0.mk (mq_cell HCX.out hdr.below)
           clear hdr
           refine hK.out _ _ ⟨HPL3.out.1, HPL3.out.2.1, HCX3.out⟩ (fun hHeld => ?_)
           clear hK K
           refine norm_ (a' := ?_) ?_ ?_
           rotate_left
           ·show Act.put _ (some 245) _ = _
            simp only [nm_]
            rfl
           refine pz_ 9 246 ?_ T12m39_ rfl rfl (by kernel_rfl) ?_ ?_ ?_ ?_; rotate_left; intro w'; go_simp; with_reducible rfl; rotate_left; simp only [nm_]; rfl
           refine pz_ 10 247 ?_ T12m40_ rfl rfl (by kernel_rfl) ?_ ?_ ?_ ?_; rotate_left; intro w'; go_simp; with_reducible rfl; rotate_left; simp only [nm_]; rfl
           refine pz_ 11 248 ?_ T12m41_ rfl rfl (by kernel_rfl) ?_ ?_ ?_ ?_; rotate_left; intro w'; go_simp; with_reducible rfl; rotate_left; simp only [nm_]; rfl
           refine pz_ 12 249 ?_ T12m42_ rfl rfl (by kernel_rfl) ?_ ?_ ?_ ?_; rotate_left; intro w'; go_simp; with_reducible rfl; rotate_left; simp only [nm_]; rfl
           refine pz_ 13 250 ?_ T12m43_ rfl rfl (by kernel_rfl) ?_ ?_ ?_ ?_; rotate_left; intro w'; go_simp; with_reducible rfl; rotate_left; simp only [nm_]; rfl
           refine pz_ 15 252 ?_ T12m44_ rfl rfl (by kernel_rfl) ?_ ?_ ?_ ?_; rotate_left; intro w'; go_simp; with_reducible rfl; rotate_left; simp only [nm_]; rfl
           refine pz_ 16 253 ?_ T12m45_ rfl rfl (by kernel_rfl) ?_ ?_ ?_ ?_; rotate_left; intro w'; go_simp; with_reducible rfl; rotate_left; simp only [nm_]; rfl
           refine pz_ 17 254 ?_ T12m46_ rfl rfl (by kernel_rfl) ?_ ?_ ?_ ?_; rotate_left; intro w'; go_simp; with_reducible rfl; rotate_left; simp only [nm_]; rfl
           refine pz_ 22 259 ?_ T12m47_ rfl rfl (by kernel_rfl) ?_ ?_ ?_ ?_; rotate_left; intro w'; go_simp; with_reducible rfl; rotate_left; simp only [nm_]; rfl
           refine pz_ 23 260 ?_ T12m48_ rfl rfl (by kernel_rfl) ?_ ?_ ?_ ?_; rotate_left; intro w'; go_simp; with_reducible rfl; rotate_left; simp only [nm_]; rfl
           refine pz_ 24 261 ?_ T12m49_ rfl rfl (by kernel_rfl) ?_ ?_ ?_ ?_; rotate_left; intro w'; go_simp; with_reducible rfl; rotate_left; simp only [nm_]; rfl
           refine tz_ 14 251 ?_ T12m50_ rfl rfl (by kernel_rfl) ?_ hHeld ?_ ?_ ?_; rotate_left; rintro w' ⟨s0, s1, s2⟩; go_simp; with_reducible rfl; rotate_left; simp only [nm_]; rfl
           refine tz_ 18 255 ?_ T12m51_ rfl rfl (by kernel_rfl) ?_ hHeld ?_ ?_ ?_; rotate_left; rintro w' ⟨s0, s1, s2⟩; go_simp; with_reducible rfl; rotate_left; simp only [nm_]; rfl
           refine pz_ 19 256 ?_ T12m52_ rfl rfl (by kernel_rfl) ?_ ?_ ?_ ?_; rotate_left; intro w'; go_simp; with_reducible rfl; rotate_left; simp only [nm_]; rfl
           refine pz_ 20 257 ?_ T12m53_ rfl rfl (by kernel_rfl) ?_ ?_ ?_ ?_; rotate_left; intro w'; go_simp; with_reducible rfl; rotate_left; simp only [nm_]; rfl
           refine pz_ 21 258 ?_ T12m54_ rfl rfl (by kernel_rfl) ?_ ?_ ?_ ?_; rotate_left; intro w'; go_simp; with_reducible rfl; rotate_left; simp only [nm_]; rfl
           refine tz_ 25 262 ?_ T12m55_ rfl rfl (by kernel_rfl) ?_ hHeld ?_ ?_ ?_; rotate_left; rintro w' ⟨s0, s1, s2⟩; go_simp; with_reducible rfl; rotate_left; simp only [nm_]; rfl
           refine pz_ 26 263 ?_ T12m56_ rfl rfl (by kernel_rfl) ?_ ?_ ?_ ?_; rotate_left; intro w'; go_simp; with_reducible rfl; rotate_left; simp only [nm_]; rfl
           refine pz_ 27 264 ?_ T12m57_ rfl rfl (by kernel_rfl) ?_ ?_ ?_ ?_; rotate_left; intro w'; go_simp; with_reducible rfl; rotate_left; simp only [nm_]; rfl
           refine tz_ 28 265 ?_ T12m58_ rfl rfl (by kernel_rfl) ?_ hHeld ?_ ?_ ?_; rotate_left; rintro w' ⟨s0, s1, s2⟩; go_simp; with_reducible rfl; rotate_left; simp only [nm_]; rfl
           refine pz_ 29 266 ?_ T12m59_ rfl rfl (by kernel_rfl) ?_ ?_ ?_ ?_; rotate_left; intro w'; go_simp; with_reducible rfl; rotate_left; simp only [nm_]; rfl
           refine pz_ 30 267 ?_ T12m60_ rfl rfl (by kernel_rfl) ?_ ?_ ?_ ?_; rotate_left; intro w'; go_simp; with_reducible rfl; rotate_left; simp only [nm_]; rfl
           refine done_ (by kernel_rfl) ?_
           go_wp2
           go_roundg k4
           case measure => omega
           case rel => exact ⟨i4 + 1, (by first | rfl | exact congrArg (fun y => Value.int .i64 y) (show wrap64 ((i4 : Int) + 1) = ((i4 + 1 : Nat) : Int) from by have := HILT.out; have := HL2.out; unfold wrap64; omega)), ⟨by have := HK4.out; have := HILT.out; omega⟩, HZ3⟩
          ·have hlt : decide (i4 < l2.length) = false := decide_eq_false hi
           have hlt' : decide ((i4 : Int) < (l2.length : Int)) = false := decide_eq_false (by omega)
           clear hi
           go_wp2
           go_ret
           exact ⟨(by first | rfl | (simp [go_sem]; done)), HZ.out.hB⟩
theorem foghornlaw20_MendMany.calls (k : Nat) (A0 : Option Addr) (c0 : Nat) (l0 : List ByteArray) (a1 : Int) (A2 : Option Addr) (c2 : Nat) (l2 : List (List Int)) (r : Bool) (w : World) (hr0 : Kd.C Kd.string w A0 l0.length l0) (hc0 : l0.length ≤ c0) (hr2 : Kd.C (Kd.slice 3 (Kd.int .i64)) w A2 l2.length l2) (hc2 : l2.length ≤ c2) (h : foghornlaw20_MendMany.f k l0 a1 l2 = some r) (hq_ : r = true) :
  Calls Try.prog 15 #[.slice A0 l0.length c0, .int .i64 a1, .slice A2 l2.length c2] w fun e w' => e = .returned (.bool r) ∧ Below w.heap.size w w' := by
 subst hq_
 unfold foghornlaw20_MendMany.f at h
 split at h
 ·rename_i hl
  obtain ⟨⟨W1, r2, r3⟩, hW, h⟩ := Option.bind_eq_some_iff.1 h
  obtain ⟨⟨A1, r2', r3'⟩, hA, h⟩ := Option.bind_eq_some_iff.1 h
  split at h
  ·rename_i hok
   obtain ⟨h1, h2, h3, h4, h5⟩ := hok
   simp only [Prod.mk.injEq] at h2
   obtain ⟨rfl, rfl⟩ := h2
   obtain ⟨⟨m1, m2⟩, hM, h⟩ := Option.bind_eq_some_iff.1 h
   obtain ⟨n, hN, h⟩ := Option.bind_eq_some_iff.1 h
   split at h
   ·rename_i he
    subst he
    exact mq_go k A0 c0 l0 a1 A2 c2 l2 w hr0 hc0 hr2 hc2 hl.1 hl.2.1 hl.2.2 W1 A1 r2 r3 hW hA h1 h3 h4 h5 m1 m2 hM hN
   ·cases h
  ·cases h
 ·cases h
theorem foghornlaw20_MendMany.walk (P : foghornlaw20_MendMany.Pure) (A0 : Option Addr) (c0 : Nat) (l0 : List ByteArray) (a1 : Int) (A2 : Option Addr) (c2 : Nat) (l2 : List (List Int)) (w : World) (hr0 : Kd.C Kd.string w A0 l0.length l0) (hc0 : l0.length ≤ c0) (hr2 : Kd.C (Kd.slice 3 (Kd.int .i64)) w A2 l2.length l2) (hc2 : l2.length ≤ c2) (hw0 : l0.length * 16 ≤ 140737488351232 ∧ ∀ x ∈ l0, (fun y_ : ByteArray => y_.size ≤ 140737488351232) x) (hw1 : (Lit.int .i64 a1).wf = true) (hw2 : l2.length * 24 ≤ 140737488351232 ∧ ∀ x ∈ l2, (fun y_ : List Int => y_.length * 8 ≤ 140737488351232 ∧ ∀ x ∈ y_, (fun y_ : Int => (Lit.int .i64 y_).wf = true) x) x) :
  Calls Try.prog 15 #[.slice A0 l0.length c0, .int .i64 a1, .slice A2 l2.length c2] w fun e w' => e = .returned (.bool true) ∧ Below w.heap.size w w' := by
 obtain ⟨k, h⟩ := P l0 a1 l2 hw0 hw1 hw2
 refine (foghornlaw20_MendMany.calls k _ _ l0 a1 _ _ l2 true w hr0 hc0 hr2 hc2 h rfl).mono ?_
 rintro e w' ⟨rfl, hd⟩
 exact ⟨rfl, hd⟩
end Go.Proofs.Ytncoakokdajibaa.Q
