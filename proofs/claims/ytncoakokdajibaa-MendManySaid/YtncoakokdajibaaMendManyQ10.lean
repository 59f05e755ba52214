import Derived.Test.YtncoakokdajibaaMendManyStepW
import Derived.Test.YtncoakokdajibaaMendManyK0
import Derived.Test.YtncoakokdajibaaMendManyF1
import Derived.Test.YtncoakokdajibaaMendManyQ8
-- Printed by myprint.py (ours) over the kit's printer, out of the translation.
namespace Go.Proofs.Ytncoakokdajibaa.Q
open Go.RowKit Go.Proofs.YtncoakokdajibaaW.PrintWords Go.Proofs.YtncoakokdajibaaW.PrintLast Go.Proofs.YtncoakokdajibaaW.PrintMore
attribute [local go_sem] ArrW.ptrOf_slice unary_neg_float unary_neg_complex run_store_float run_store_complex max2_int min2_int max_two min_two max_three min_three max_four min_four   -- for this text's walks alone
set_option linter.unusedVariables false
set_option linter.unusedSimpArgs false
def T10m0_ : Array Bool := (List.replicate 1 true ++ List.replicate 15 false).toArray
def T10m1_ : Array Bool := (List.replicate 2 true ++ List.replicate 14 false).toArray
def T10m2_ : Array Bool := (List.replicate 3 true ++ List.replicate 13 false).toArray
def T10m3_ : Array Bool := (List.replicate 3 true ++ List.replicate 1 false ++ List.replicate 1 true ++ List.replicate 11 false).toArray
def T10m4_ : Array Bool := (List.replicate 3 true ++ List.replicate 1 false ++ List.replicate 2 true ++ List.replicate 10 false).toArray
def T10m5_ : Array Bool := (List.replicate 3 true ++ List.replicate 1 false ++ List.replicate 3 true ++ List.replicate 9 false).toArray
def T10m6_ : Array Bool := (List.replicate 3 true ++ List.replicate 1 false ++ List.replicate 4 true ++ List.replicate 8 false).toArray
def T10m7_ : Array Bool := (List.replicate 8 true ++ List.replicate 8 false).toArray
def T10m8_ : Array Bool := (List.replicate 9 true ++ List.replicate 7 false).toArray
def T10m9_ : Array Bool := (List.replicate 11 true ++ List.replicate 5 false).toArray
def T10m10_ : Array Bool := (List.replicate 12 true ++ List.replicate 4 false).toArray
def T10m11_ : Array Bool := (List.replicate 13 true ++ List.replicate 3 false).toArray
def T10m12_ : Array Bool := (List.replicate 11 true ++ List.replicate 2 false ++ List.replicate 1 true ++ List.replicate 2 false).toArray
def T10m13_ : Array Bool := (List.replicate 12 true ++ List.replicate 1 false ++ List.replicate 1 true ++ List.replicate 2 false).toArray
def T10m14_ : Array Bool := (List.replicate 14 true ++ List.replicate 2 false).toArray
def T10m15_ : Array Bool := (List.replicate 16 true).toArray
set_option maxHeartbeats 8000000 in
set_option maxRecDepth 100000 in
theorem foghornref20_All.calls (k : Nat) (A0 : Option Addr) (c0 : Nat) (l0 : List ByteArray) (a1 : Int) (A2 : Option Addr) (c2 : Nat) (l2 : List (List Int)) (r1 : List (S76)) (r2 : List Int) (r3 : Int) (w : World) (hr0 : Kd.C Kd.string w A0 l0.length l0) (hc0 : l0.length ≤ c0) (hr2 : Kd.C (Kd.slice 3 (Kd.int .i64)) w A2 l2.length l2) (hc2 : l2.length ≤ c2) (h : foghornref20_All.f k l0 a1 l2 = some (r1, r2, r3)) :
  Calls Try.prog 61 #[.slice A0 l0.length c0, .int .i64 a1, .slice A2 l2.length c2] w fun e w' => ∃ v0_ v1_ : Value, e = .returned (.tuple #[v0_, v1_, .int .i64 r3]) ∧ Kd.S k76 76 w' w.heap.size (fun k_ => some k_ ≠ (v1_ : Value).ownBlock) v0_ r1 ∧ Kd.R (Kd.int .i64) 3 w' w.heap.size (fun _ => True) v1_ r2 ∧ Below w.heap.size w w' := by
 have hu76 := Try.underlying76
 have HR0 := Aside0.mk hr0
 have HC0 := Aside0.mk hc0
 clear hr0 hc0
 have HR2 := Aside0.mk hr2
 have HC2 := Aside0.mk hc2
 clear hr2 hc2
 have HB := Aside0.mk (Below.refl w.heap.size w)
 have H : (if a1 < 2 then (foghornref20_All.j0 k l0 a1 l2 true) else (if a1 > 64 then (foghornref20_All.j0 k l0 a1 l2 true) else (if (Int.tmod a1 2) = 0 then (if (l0.length : Int) = (l2.length : Int) then (foghornref20_All.j0 k l0 a1 l2 (decide ((l0.length : Int) > 32768))) else (foghornref20_All.j0 k l0 a1 l2 true)) else (foghornref20_All.j0 k l0 a1 l2 true)))) = some (r1, r2, r3) := h
 clear h
 have HC4 := Aside0.mk H
 clear H
 go_enter Try.func61, Try.ntmps61
 go_upto_region 1 with (fail)
 go_cut [36] (fun v36 wc => ∃ (kq : Nat) (x36_3 : Bool), v36 = .bool x36_3 ∧ Aside0 (foghornref20_All.j0 kq l0 a1 l2 x36_3 = some (r1, r2, r3)) ∧ Aside0 (kq ≤ k) ∧ Aside0 (Below w.heap.size w wc))
 case first =>
  have H := HC4.out
  clear HC4
  by_cases c5 : a1 < 2
  ·rw [if_pos c5] at H
   have c5b0 : decide (a1 < 2) = true := decide_eq_true c5
   clear c5
   (first | rw [c5b0] | (simp only [i64_w, i32_w]; rw [c5b0]) | skip)
   have H' := Aside0.mk H
   clear H
   go_wp2
   go_meet
   case rel => exact ⟨_, (true), (by rfl), H', ⟨by first | omega | exact Nat.le_refl _⟩, ⟨HB.out⟩⟩
  ·rw [if_neg c5] at H
   have c5b0 : decide (a1 < 2) = false := decide_eq_false c5
   clear c5
   (first | rw [c5b0] | (simp only [i64_w, i32_w]; rw [c5b0]) | skip)
   by_cases c6 : a1 > 64
   ·rw [if_pos c6] at H
    have c6b0 : decide (64 < a1) = true := decide_eq_true c6
    clear c6
    have H' := Aside0.mk H
    clear H
    go_wp2
    go_meet
    case rel => exact ⟨_, (true), (by rfl), H', ⟨by first | omega | exact Nat.le_refl _⟩, ⟨HB.out⟩⟩
   ·rw [if_neg c6] at H
    have c6b0 : decide (64 < a1) = false := decide_eq_false c6
    clear c6
    by_cases c7 : (Int.tmod a1 2) = 0
    ·rw [if_pos c7] at H
     have c7b0 : ((Int.tmod a1 2) == 0) = true := beq_iff_eq.mpr c7
     have c7b1 : ((Int.tmod a1 2) != 0) = false := bne_eq_false_iff_eq.mpr c7
     clear c7
     by_cases c8 : (l0.length : Int) = (l2.length : Int)
     ·rw [if_pos c8] at H
      have c8b0 : ((l0.length : Int) == (l2.length : Int)) = true := beq_iff_eq.mpr c8
      have c8b1 : ((l0.length : Int) != (l2.length : Int)) = false := bne_eq_false_iff_eq.mpr c8
      have c8b2 : (l0.length == l2.length) = true := by first | simpa using c8 | (simp at c8 ⊢; omega)
      clear c8
      have H' := Aside0.mk H
      clear H
      go_wp2
      go_meet
      case rel => exact ⟨_, (decide ((l0.length : Int) > 32768)), (by rfl), H', ⟨by first | omega | exact Nat.le_refl _⟩, ⟨HB.out⟩⟩
     ·rw [if_neg c8] at H
      have c8b0 : ((l0.length : Int) == (l2.length : Int)) = false := beq_eq_false_iff_ne.mpr c8
      have c8b1 : ((l0.length : Int) != (l2.length : Int)) = true := bne_iff_ne.mpr c8
      have c8b2 : (l0.length == l2.length) = false := by first | simpa using c8 | (simp at c8 ⊢; omega)
      have H' := Aside0.mk H
      clear H
      go_wp2
      go_meet
      case rel => exact ⟨_, (true), (by rfl), H', ⟨by first | omega | exact Nat.le_refl _⟩, ⟨HB.out⟩⟩
    ·rw [if_neg c7] at H
     have c7b0 : ((Int.tmod a1 2) == 0) = false := beq_eq_false_iff_ne.mpr c7
     have c7b1 : ((Int.tmod a1 2) != 0) = true := bne_iff_ne.mpr c7
     have H' := Aside0.mk H
     clear H
     go_wp2
     go_meet
     case rel => exact ⟨_, (true), (by rfl), H', ⟨by first | omega | exact Nat.le_refl _⟩, ⟨HB.out⟩⟩
 case rest =>
  clear HC4
  try clear c2
  try clear c5
  try clear c5b0
  try clear c6
  try clear c6b0
  try clear c7
  try clear c7b0
  try clear c7b1
  try clear c8
  try clear c8b0
  try clear c8b1
  try clear c8b2
  obtain ⟨kq, x36_3, rfl, HA, HJ3, HB⟩ := hcut
  cases kq with
  | zero => exact absurd HA.out (by simp [foghornref20_All.j0])
  | succ kj3 =>
   have H := HA.out
   clear HA
   simp only [foghornref20_All.j0] at H
   by_cases c9 : x36_3 = true
   ·subst c9
    have H1 : (some (([] : List (S76)), ([] : List Int), 1)) = some (r1, r2, r3) := by rw [if_pos rfl] at H; exact H
    clear H
    have H := H1
    clear H1
    simp only [Option.some.injEq, Prod.mk.injEq] at H
    obtain ⟨rfl, rfl, rfl⟩ := H
    go_wp2
    go_ret3
    exact ⟨_, _, by rfl, by first | exact Kd.S_nil _ _ _ _ _ | exact Kd.N_nil _ _ _ _ _ | exact Kd.V_nil _ _ _ _ _ | exact Kd.Q_nil _ _ _ _ _ | exact Kd.R_nil _ _ _ _ _, by first | exact Kd.R_nil _ _ _ _ _ | exact Kd.N_nil _ _ _ _ _ | exact Kd.V_nil _ _ _ _ _ | exact Kd.Q_nil _ _ _ _ _ | exact Kd.S_nil _ _ _ _ _, HB.out⟩
   ·replace c9 := Bool.eq_false_iff.mpr c9
    subst c9
    have H1 : (foghornref20_All.l0 kj3 l0 a1 l2 ([] : List (S76)) ([] : List Int) 0) = some (r1, r2, r3) := by rw [if_neg (show ¬ (false = true) by decide)] at H; exact H
    clear H
    have H := H1
    clear H1
    have H' := Aside0.mk H
    clear H
    go_wp2
    go_loopg [9, 10, 11] kj3 (fun kq v9 v10 v11 w' => ∃ (x9_2 : List (S76)) (x10_2 : List Int) (x11_2 : Int), v11 = .int .i64 x11_2 ∧ Aside0 (foghornref20_All.l0 kq l0 a1 l2 x9_2 x10_2 x11_2 = some (r1, r2, r3)) ∧ Aside0 (kq ≤ kj3) ∧ Aside0 (Kd.S k76 76 w' w.heap.size (fun k_ => some k_ ≠ (v10 : Value).ownBlock) v9 x9_2) ∧ Aside0 (Kd.R (Kd.int .i64) 3 w' w.heap.size (fun _ => True) v10 x10_2) ∧ Aside0 (Below w.heap.size w w'))
    case atStart => exact ⟨(([] : List (S76))), (([] : List Int)), (0), (by rfl), H', ⟨Nat.le_refl _⟩, ⟨by first | exact Kd.S_nil _ _ _ _ _ | exact Kd.N_nil _ _ _ _ _ | exact Kd.V_nil _ _ _ _ _ | exact Kd.Q_nil _ _ _ _ _ | exact Kd.R_nil _ _ _ _ _⟩, ⟨by first | exact Kd.R_nil _ _ _ _ _ | exact Kd.N_nil _ _ _ _ _ | exact Kd.V_nil _ _ _ _ _ | exact Kd.Q_nil _ _ _ _ _ | exact Kd.S_nil _ _ _ _ _⟩, ⟨HB.out⟩⟩
    case round =>
     clear H'
     try clear c2
     try clear c5
     try clear c5b0
     try clear c6
     try clear c6b0
     try clear c7
     try clear c7b0
     try clear c7b1
     try clear c8
     try clear c8b0
     try clear c8b1
     try clear c8b2
     try clear c9
     obtain ⟨x9_2, x10_2, x11_2, rfl, HA, HK2, HO_9, HO_10, HB⟩ := hrel
     cases gk with
     | zero => exact absurd HA.out (by simp [foghornref20_All.l0])
     | succ k2 =>
      have H := HA.out
      clear HA
      simp only [foghornref20_All.l0] at H
      by_cases c10 : x11_2 < (l0.length : Int)
      ·rw [if_pos c10] at H
       have c10b0 : decide (x11_2 < (l0.length : Int)) = true := decide_eq_true c10
       clear c10
       by_cases c11 : 0 ≤ x11_2
       ·rw [if_pos c11] at H
        have c11b0 : decide (0 ≤ x11_2) = true := decide_eq_true c11
        clear c11
        by_cases c12 : x11_2 < (l2.length : Int)
        ·rw [if_pos c12] at H
         have c12b0 : decide (x11_2 < (l2.length : Int)) = true := decide_eq_true c12
         clear c12
         replace H := Option.bind_eq_some_iff.mp H
         obtain ⟨⟨t1230, t1231, t1234, t1237⟩, A130, H⟩ := H
         replace H : (if t1237 = 1 then (some (([] : List (S76)), ([] : List Int), 1)) else (if t1237 = 0 then (if x9_2.length < 2199023255552 then (foghornref20_All.l0 k2 l0 a1 l2 (x9_2 ++ [(⟨t1230, t1231, t1234⟩ : S76)]) x10_2 (wrap64 (x11_2 + 1))) else (none)) else (if x10_2.length < 17592186044416 then (if x9_2.length < 2199023255552 then (foghornref20_All.l0 k2 l0 a1 l2 (x9_2 ++ [(⟨t1230, t1231, t1234⟩ : S76)]) (x10_2 ++ [x11_2]) (wrap64 (x11_2 + 1))) else (none)) else (none)))) = some (r1, r2, r3) := H
         have A13 := Aside0.mk A130
         clear A130
         have HH_ := Aside0.mk H
         clear H
         try go_wp2
         have n0_ := Aside0.mk (Kd.S_drew HO_9.out)
         have n1_ := Aside0.mk (Kd.R_drew HO_10.out)
         have n2_ := Aside0.mk (below_drew1 HB.out)
         clear HO_9
         clear HO_10
         clear HB
         have HO_9 := n0_
         have HO_10 := n1_
         have HB := n2_
         clear n0_ n1_ n2_
         have p1228 : 0 ≤ (x11_2 : Int) := of_decide_eq_true (by assumption)
         have q1228 : x11_2 < (l0.length : Int) := of_decide_eq_true (by assumption)
         obtain ⟨ad1228, e1228, hx1228_0⟩ := Kd.at_string HR0.out x11_2 p1228 q1228
         have hw1228_0 := hx1228_0
         cases e1228
         replace hx1228_0 := (HB.out.cell (World.block_lt_of_cell? w _ hx1228_0)).trans hx1228_0
         replace p1228 := eq_true p1228
         replace q1228 := eq_true q1228
         have p1229 : 0 ≤ (x11_2 : Int) := of_decide_eq_true (by assumption)
         have q1229 : x11_2 < (l2.length : Int) := of_decide_eq_true (by assumption)
         obtain ⟨ad1229, A1229_0, c1229_0, e1229, hx1229_0, hl1229_0, hi1229_0⟩ := at_L9 HR2.out x11_2 p1229 q1229
         have hw1229_0 := hx1229_0
         cases e1229
         replace hx1229_0 := (HB.out.cell (World.block_lt_of_cell? w _ hx1229_0)).trans hx1229_0
         have HR1229_0 := Aside0.mk hi1229_0
         have HC1229_0 := Aside0.mk hl1229_0
         clear hi1229_0 hl1229_0
         replace p1229 := eq_true p1229
         replace q1229 := eq_true q1229
         refine start_ (n := 16) (S := fun w' => w'.cell? (ad1228.add (x11_2).toNat) = some (.string (rdOf ByteArray.empty l0 x11_2)) ∧ w'.cell? (ad1229.add (x11_2).toNat) = some (.slice A1229_0 (rd_L9 l2 x11_2).length c1229_0)) (ds := []) #[false, false, false, false, false, false, false, false, false, false, false, false, false, false, false, false] (by kernel_rfl) rfl rfl ⟨((HB.out.cell (World.block_lt_of_cell? w _ hw1228_0)).trans hw1228_0), ((HB.out.cell (World.block_lt_of_cell? w _ hw1229_0)).trans hw1229_0)⟩ (fun hHeld => ?_); refine with_tabW foghornref20_All.tab8 foghornref20_All.bits8 (fun HT_ HW_ => ?_)
         generalize wr.drew = w15 at HO_9 HO_10 HB HR1229_0 hx1228_0 hx1229_0 hHeld ⊢
         refine pz_ 0 44 ?_ T10m0_ rfl rfl (any_of HT_.out (by kernel_rfl)) ?_ ?_ ?_ ?_; rotate_left; intro w'; go_simp; with_reducible rfl; rotate_left; simp only [nm_]; rfl
         refine pz_ 1 45 ?_ T10m1_ rfl rfl (any_of HT_.out (by kernel_rfl)) ?_ ?_ ?_ ?_; rotate_left; intro w'; go_simp; with_reducible rfl; rotate_left; simp only [nm_]; rfl
         refine pz_ 2 46 ?_ T10m2_ rfl rfl (any_of HT_.out (by kernel_rfl)) ?_ ?_ ?_ ?_; rotate_left; intro w'; go_simp; with_reducible rfl; rotate_left; simp only [nm_]; rfl
         refine pz_ 4 48 ?_ T10m3_ rfl rfl (any_of HT_.out (by kernel_rfl)) ?_ ?_ ?_ ?_; rotate_left; intro w'; go_simp; with_reducible rfl; rotate_left; simp only [nm_]; rfl
         refine pz_ 5 49 ?_ T10m4_ rfl rfl (any_of HT_.out (by kernel_rfl)) ?_ ?_ ?_ ?_; rotate_left; intro w'; go_simp; with_reducible rfl; rotate_left; simp only [nm_]; rfl
         refine pz_ 6 50 ?_ T10m5_ rfl rfl (any_of HT_.out (by kernel_rfl)) ?_ ?_ ?_ ?_; rotate_left; intro w'; go_simp; with_reducible rfl; rotate_left; simp only [nm_]; rfl
         refine pz_ 7 51 ?_ T10m6_ rfl rfl (any_of HT_.out (by kernel_rfl)) ?_ ?_ ?_ ?_; rotate_left; intro w'; go_simp; with_reducible rfl; rotate_left; simp only [nm_]; rfl
         refine tz_ 3 47 ?_ T10m7_ rfl rfl (take_ofW HT_.out HW_.out (by kernel_rfl)) ?_ hHeld ?_ ?_ ?_; rotate_left; rintro w' ⟨s0, s1⟩; go_simp; with_reducible rfl; rotate_left; simp only [nm_]; rfl
         refine tz_ 8 52 ?_ T10m8_ rfl rfl (take_ofW HT_.out HW_.out (by kernel_rfl)) ?_ hHeld ?_ ?_ ?_; rotate_left; rintro w' ⟨s0, s1⟩; go_simp; with_reducible rfl; rotate_left; simp only [nm_]; rfl
         refine join_ (σ := Value × Value × Nat) 2 #[true, true, true, true, true, true, true, true, true, true, true, true, true, true, false, false] (fun s_ => [(53, .tuple #[.agg #[.string t1230, s_.1, s_.2.1], .int .i64 t1237]), (12, .pointer (some ⟨s_.2.2, 0, none⟩)), (43, .tuple #[.agg #[.string t1230, s_.1, s_.2.1], .int .i64 t1237]), (54, .agg #[.string t1230, s_.1, s_.2.1]), (55, .int .i64 t1237)]) (fun s_ w' => (w'.cell? (ad1228.add (x11_2).toNat) = some (.string (rdOf ByteArray.empty l0 x11_2)) ∧ w'.cell? (ad1229.add (x11_2).toNat) = some (.slice A1229_0 (rd_L9 l2 x11_2).length c1229_0)) ∧ (Kd.R (Kd.int .i64) 3 w' w.heap.size (fun k_ => some k_ ≠ (s_.2.1 : Value).ownBlock ∧ some k_ ≠ (u10 : Value).ownBlock) s_.1 t1231) ∧ (Kd.R (Kd.int .i64) 3 w' w.heap.size (fun k_ => some k_ ≠ (s_.1 : Value).ownBlock ∧ some k_ ≠ (u10 : Value).ownBlock) s_.2.1 t1234) ∧ (Kd.R (Kd.int .i64) 3 w' w.heap.size (fun k_ => some k_ ≠ (s_.1 : Value).ownBlock ∧ some k_ ≠ (s_.2.1 : Value).ownBlock) u10 x10_2) ∧ (Kd.S k76 76 w' w.heap.size (fun k_ => some k_ ≠ (s_.1 : Value).ownBlock ∧ some k_ ≠ (s_.2.1 : Value).ownBlock ∧ some k_ ≠ (u10 : Value).ownBlock ∧ k_ ≠ s_.2.2) u9 x9_2) ∧ (w'.heap[s_.2.2]? = some (.cells #[.string (⟨#[]⟩ : ByteArray), .slice none 0 0, .slice none 0 0] 76 (0, 0))) ∧ (w.heap.size ≤ s_.2.2) ∧ (w.heap.size ≤ s_.2.2) ∧ (Below w.heap.size w w')) ?_ ?_
         rotate_left
         ·intro hCont
          refine two_ (i := 9) (j := 13) (Ni := some 53) (Nj := some 12) #[true, true, true, true, true, true, true, true, true, true, false, false, false, false, false, false] #[true, true, true, true, true, true, true, true, true, false, false, false, false, true, false, false] rfl rfl rfl rfl (two_of HT_.out (by kernel_rfl)) (by decide) (by decide) (fun K hK => ?_) (fun K hK => ?_)
          ·skip
           refine goes_ Try.func55 (by kernel_rfl) rfl #[.string (rdOf ByteArray.empty l0 x11_2), .int .i64 a1, .slice A1229_0 (rd_L9 l2 x11_2).length c1229_0] (by rfl) rfl rfl (by (try simp only [List.map_toArray, List.map_cons, List.map_nil]); first | done | rfl | (simp only [List.length_drop, List.length_take]; rfl)) ?_
           with_reducible refine (foghornref20_Mend.calls k2 (rdOf ByteArray.empty l0 x11_2) a1 _ _ (rd_L9 l2 x11_2) t1230 t1231 t1234 t1237 _ ?side1 ?side2 A13.out).mono ?_
           (case side1 => exact (Kd.C_below HR1229_0.out HB.out))
           (case side2 => exact HC1229_0.out)
           rintro e w16 ⟨v1232, v1235, rfl, ho0, ho1, hb⟩
           refine ⟨_, rfl, ?_⟩
           have n0_ := Aside0.mk (Kd.S_mono (Kd.S_told (Kd.S_told (Kd.S_old HO_9.out hb) (Kd.R_base ho0)) (Kd.R_base ho1)) (fun _ h_ => h_.1))
           have n1_ := Aside0.mk (Kd.R_mono (Kd.R_told (Kd.R_told (Kd.R_old HO_10.out hb) (Kd.R_base ho0)) (Kd.R_base ho1)) (fun _ h_ => h_.1))
           have n2_ := Aside0.mk (Kd.R_lower (Kd.R_new' ho0 (Kd.R_lt HO_10.out)) (below_size HB.out))
           have n3_ := Aside0.mk (Kd.R_lower (Kd.R_new' ho1 (Kd.R_lt HO_10.out)) (below_size HB.out))
           have n4_ := Aside0.mk (below_step HB.out hb)
           clear HO_9
           clear HO_10
           clear HB
           have HO_9 := n0_
           have HO_10 := n1_
           have HO1233 := n2_
           have HO1236 := n3_
           have HB := n4_
           clear n0_ n1_ n2_ n3_ n4_
           (try clear hb)
           (try clear hb2)
           (try clear hk)
           (try clear hi)
           (try clear ho0)
           (try clear ho1)
           refine hK.out _ _ ⟨((HB.out.cell (World.block_lt_of_cell? w _ hw1228_0)).trans hw1228_0), ((HB.out.cell (World.block_lt_of_cell? w _ hw1229_0)).trans hw1229_0)⟩ (fun hHeld => ?_)
           clear hK K
           refine norm_ (a' := ?_) ?_ ?_
           rotate_left
           ·show Act.put _ (some 53) _ = _
            simp only [nm_]
            rfl
           refine pz_ 10 43 ?_ T10m9_ rfl rfl (any_of HT_.out (by kernel_rfl)) ?_ ?_ ?_ ?_; rotate_left; intro w'; go_simp; with_reducible rfl; rotate_left; simp only [nm_]; rfl
           refine pz_ 11 54 ?_ T10m10_ rfl rfl (any_of HT_.out (by kernel_rfl)) ?_ ?_ ?_ ?_; rotate_left; intro w'; go_simp; with_reducible rfl; rotate_left; simp only [nm_]; rfl
           refine pz_ 12 55 ?_ T10m11_ rfl rfl (any_of HT_.out (by kernel_rfl)) ?_ ?_ ?_ ?_; rotate_left; intro w'; go_simp; with_reducible rfl; rotate_left; simp only [nm_]; rfl
           refine one_ (i := 13) (N := some 12) #[true, true, true, true, true, true, true, true, true, true, true, true, true, true, false, false] rfl rfl (one_of HT_.out (by kernel_rfl)) (by decide) (fun K hK => ?_)
           refine box_step ?hg (N := 12) ?hd (cs := #[.string (⟨#[]⟩ : ByteArray), .slice none 0 0, .slice none 0 0]) (t := 76) ?hr ?_; (case hd => rfl); (case hg => rfl); (case hr => first | (go_simp; done) | (go_simp; rfl))
           intro gb1238 hg w17 hbox hb
           have n0_ := Aside0.mk (Kd.S_below (Kd.S_elderB HO_9.out gb1238 (Nat.le_of_eq hg.symm)) hb)
           have n1_ := Aside0.mk (Kd.R_below HO_10.out hb)
           have n2_ := Aside0.mk (Kd.R_below HO1233.out hb)
           have n3_ := Aside0.mk (Kd.R_below HO1236.out hb)
           have n4_ := Aside0.mk (below_step HB.out hb)
           have n5_ := Aside0.mk (hbox)
           have n6_ := Aside0.mk ((by rw [hg]; exact (below_size HB.out) : w.heap.size ≤ gb1238))
           have n7_ := Aside0.mk ((by rw [hg]; exact (below_size HB.out) : w.heap.size ≤ gb1238))
           clear HO_9
           clear HO_10
           clear HO1233
           clear HO1236
           clear HB
           have HO_9 := n0_
           have HO_10 := n1_
           have HO1233 := n2_
           have HO1236 := n3_
           have HB := n4_
           have BK1238 := n5_
           have GW1238 := n6_
           have GE1238 := n7_
           clear n0_ n1_ n2_ n3_ n4_ n5_ n6_ n7_
           clear hb hbox hg
           refine hK.out _ _ ⟨((HB.out.cell (World.block_lt_of_cell? w _ hw1228_0)).trans hw1228_0), ((HB.out.cell (World.block_lt_of_cell? w _ hw1229_0)).trans hw1229_0)⟩ (fun hHeld => ?_)
           clear hK K
           refine norm_ (a' := ?_) ?_ ?_
           rotate_left
           ·show Act.put _ (some 12) _ = _
            simp only [nm_]
            rfl
           exact norm_ (by simp only [putAll, Act.put, List.setIfInBounds_toArray, List.set_cons_zero, List.set_cons_succ]) (hCont (v1232, v1235, gb1238) _ ⟨hHeld, HO1233.out, HO1236.out, (by (with_reducible repeat (first | apply Kd.R_alloc | apply Kd.R_drewN | apply Kd.R_drew)); exact Kd.R_mono HO_10.out (fun _ hk => ⟨hk.1.2, hk.2⟩)), (by (with_reducible repeat (first | apply Kd.S_alloc | apply Kd.S_drewN | apply Kd.S_drew)); exact Kd.S_mono HO_9.out (fun _ hk => ⟨hk.1.1.2, ⟨hk.1.2, ⟨hk.1.1.1, hk.2⟩⟩⟩)), (by (with_reducible repeat (first | refine blk_drewN ?_ _ | refine blk_drew ?_ | refine blk_alloc ?_ _)); exact BK1238.out), GW1238.out, GE1238.out, HB.out⟩)
          ·skip
           refine box_step ?hg (N := 12) ?hd (cs := #[.string (⟨#[]⟩ : ByteArray), .slice none 0 0, .slice none 0 0]) (t := 76) ?hr ?_; (case hd => rfl); (case hg => rfl); (case hr => first | (go_simp; done) | (go_simp; rfl))
           intro gb1238 hg w16 hbox hb
           have n0_ := Aside0.mk (Kd.S_below (Kd.S_elderB HO_9.out gb1238 (Nat.le_of_eq hg.symm)) hb)
           have n1_ := Aside0.mk (Kd.R_below HO_10.out hb)
           have n2_ := Aside0.mk (below_step HB.out hb)
           have n3_ := Aside0.mk (hbox)
           have n4_ := Aside0.mk ((by rw [hg]; exact (below_size HB.out) : w.heap.size ≤ gb1238))
           have n5_ := Aside0.mk ((by rw [hg]; exact (below_size HB.out) : w.heap.size ≤ gb1238))
           clear HO_9
           clear HO_10
           clear HB
           have HO_9 := n0_
           have HO_10 := n1_
           have HB := n2_
           have BK1238 := n3_
           have GW1238 := n4_
           have GE1238 := n5_
           clear n0_ n1_ n2_ n3_ n4_ n5_
           clear hb hbox hg
           refine hK.out _ _ ⟨((HB.out.cell (World.block_lt_of_cell? w _ hw1228_0)).trans hw1228_0), ((HB.out.cell (World.block_lt_of_cell? w _ hw1229_0)).trans hw1229_0)⟩ (fun hHeld => ?_)
           clear hK K
           refine norm_ (a' := ?_) ?_ ?_
           rotate_left
           ·show Act.put _ (some 12) _ = _
            simp only [nm_]
            rfl
           refine one_ (i := 9) (N := some 53) #[true, true, true, true, true, true, true, true, true, true, false, false, false, true, false, false] rfl rfl (one_of HT_.out (by kernel_rfl)) (by decide) (fun K hK => ?_)
           refine goes_ Try.func55 (by kernel_rfl) rfl #[.string (rdOf ByteArray.empty l0 x11_2), .int .i64 a1, .slice A1229_0 (rd_L9 l2 x11_2).length c1229_0] (by rfl) rfl rfl (by (try simp only [List.map_toArray, List.map_cons, List.map_nil]); first | done | rfl | (simp only [List.length_drop, List.length_take]; rfl)) ?_
           with_reducible refine (foghornref20_Mend.calls k2 (rdOf ByteArray.empty l0 x11_2) a1 _ _ (rd_L9 l2 x11_2) t1230 t1231 t1234 t1237 _ ?side1 ?side2 A13.out).mono ?_
           (case side1 => exact (Kd.C_below HR1229_0.out HB.out))
           (case side2 => exact HC1229_0.out)
           rintro e w17 ⟨v1232, v1235, rfl, ho0, ho1, hb⟩
           refine ⟨_, rfl, ?_⟩
           have n0_ := Aside0.mk (Kd.S_mono (Kd.S_told (Kd.S_told (Kd.S_old HO_9.out hb) (Kd.R_base ho0)) (Kd.R_base ho1)) (fun _ h_ => h_.1))
           have n1_ := Aside0.mk (Kd.R_mono (Kd.R_told (Kd.R_told (Kd.R_old HO_10.out hb) (Kd.R_base ho0)) (Kd.R_base ho1)) (fun _ h_ => h_.1))
           have n2_ := Aside0.mk (Kd.R_lower (Kd.R_new' ho0 (Kd.R_lt HO_10.out)) (below_size HB.out))
           have n3_ := Aside0.mk (Kd.R_lower (Kd.R_new' ho1 (Kd.R_lt HO_10.out)) (below_size HB.out))
           have n4_ := Aside0.mk (blk_below (g := gb1238) (o := .cells #[.string (⟨#[]⟩ : ByteArray), .slice none 0 0, .slice none 0 0] 76 (0, 0)) (by (with_reducible repeat (first | refine blk_drewN ?_ _ | refine blk_drew ?_ | refine blk_alloc ?_ _)); exact BK1238.out) hb)
           have n5_ := Aside0.mk (below_step HB.out hb)
           clear HO_9
           clear HO_10
           clear BK1238
           clear HB
           have HO_9 := n0_
           have HO_10 := n1_
           have HO1233 := n2_
           have HO1236 := n3_
           have BK1238 := n4_
           have HB := n5_
           clear n0_ n1_ n2_ n3_ n4_ n5_
           (try clear hb)
           (try clear hb2)
           (try clear hk)
           (try clear hi)
           (try clear ho0)
           (try clear ho1)
           refine hK.out _ _ ⟨((HB.out.cell (World.block_lt_of_cell? w _ hw1228_0)).trans hw1228_0), ((HB.out.cell (World.block_lt_of_cell? w _ hw1229_0)).trans hw1229_0)⟩ (fun hHeld => ?_)
           clear hK K
           refine norm_ (a' := ?_) ?_ ?_
           rotate_left
           ·show Act.put _ (some 53) _ = _
            simp only [nm_]
            rfl
           refine pz_ 10 43 ?_ T10m12_ rfl rfl (any_of HT_.out (by kernel_rfl)) ?_ ?_ ?_ ?_; rotate_left; intro w'; go_simp; with_reducible rfl; rotate_left; simp only [nm_]; rfl
           refine pz_ 11 54 ?_ T10m13_ rfl rfl (any_of HT_.out (by kernel_rfl)) ?_ ?_ ?_ ?_; rotate_left; intro w'; go_simp; with_reducible rfl; rotate_left; simp only [nm_]; rfl
           refine pz_ 12 55 ?_ T10m14_ rfl rfl (any_of HT_.out (by kernel_rfl)) ?_ ?_ ?_ ?_; rotate_left; intro w'; go_simp; with_reducible rfl; rotate_left; simp only [nm_]; rfl
           exact norm_ (by simp only [putAll, Act.put, List.setIfInBounds_toArray, List.set_cons_zero, List.set_cons_succ]) (hCont (v1232, v1235, gb1238) _ ⟨hHeld, HO1233.out, HO1236.out, (by (with_reducible repeat (first | apply Kd.R_alloc | apply Kd.R_drewN | apply Kd.R_drew)); exact Kd.R_mono HO_10.out (fun _ hk => ⟨hk.1.2, hk.2⟩)), (by (with_reducible repeat (first | apply Kd.S_alloc | apply Kd.S_drewN | apply Kd.S_drew)); exact Kd.S_mono HO_9.out (fun _ hk => ⟨hk.1.2, ⟨hk.2, ⟨hk.1.1.1, hk.1.1.2⟩⟩⟩)), (by (with_reducible repeat (first | refine blk_drewN ?_ _ | refine blk_drew ?_ | refine blk_alloc ?_ _)); exact BK1238.out), GW1238.out, GE1238.out, HB.out⟩)
         rintro ⟨v1232, v1235, gb1238⟩ w18 ⟨hS_, h0_, h1_, h2_, h3_, h4_, h5_, h6_, h7_⟩
         have n0_ : Aside0 (Kd.R (Kd.int .i64) 3 w18 w.heap.size (fun k_ => some k_ ≠ (v1235 : Value).ownBlock ∧ some k_ ≠ (u10 : Value).ownBlock) v1232 t1231) := ⟨h0_⟩
         have n1_ : Aside0 (Kd.R (Kd.int .i64) 3 w18 w.heap.size (fun k_ => some k_ ≠ (v1232 : Value).ownBlock ∧ some k_ ≠ (u10 : Value).ownBlock) v1235 t1234) := ⟨h1_⟩
         have n2_ : Aside0 (Kd.R (Kd.int .i64) 3 w18 w.heap.size (fun k_ => some k_ ≠ (v1232 : Value).ownBlock ∧ some k_ ≠ (v1235 : Value).ownBlock) u10 x10_2) := ⟨h2_⟩
         have n3_ : Aside0 (Kd.S k76 76 w18 w.heap.size (fun k_ => some k_ ≠ (v1232 : Value).ownBlock ∧ some k_ ≠ (v1235 : Value).ownBlock ∧ some k_ ≠ (u10 : Value).ownBlock ∧ k_ ≠ gb1238) u9 x9_2) := ⟨h3_⟩
         have n4_ : Aside0 (w18.heap[gb1238]? = some (.cells #[.string (⟨#[]⟩ : ByteArray), .slice none 0 0, .slice none 0 0] 76 (0, 0))) := ⟨h4_⟩
         have n5_ : Aside0 (w.heap.size ≤ gb1238) := ⟨h5_⟩
         have n6_ : Aside0 (w.heap.size ≤ gb1238) := ⟨h6_⟩
         have n7_ : Aside0 (Below w.heap.size w w18) := ⟨h7_⟩
         clear HO_9
         clear HO_10
         clear HB
         clear h0_ h1_ h2_ h3_ h4_ h5_ h6_ h7_
         have HO1233 := n0_
         have HO1236 := n1_
         have HO_10 := n2_
         have HO_9 := n3_
         have BK1238 := n4_
         have GW1238 := n5_
         have GE1238 := n6_
         have HB := n7_
         clear n0_ n1_ n2_ n3_ n4_ n5_ n6_ n7_
         have hHeld : w18.cell? (ad1228.add (x11_2).toNat) = some (.string (rdOf ByteArray.empty l0 x11_2)) ∧ w18.cell? (ad1229.add (x11_2).toNat) = some (.slice A1229_0 (rd_L9 l2 x11_2).length c1229_0) := hS_
         obtain ⟨Ao20, co20, eo20⟩ := Kd.R_slice HO1233.out
         (first | subst eo20 | (injection eo20 with f1_ f2_ f3_; have f4_ := f1_.symm; have f5_ := f3_.symm; clear f1_ f2_ f3_; subst f4_; subst f5_))
         obtain ⟨Ao22, co22, eo22⟩ := Kd.R_slice HO1236.out
         (first | subst eo22 | (injection eo22 with f1_ f2_ f3_; have f4_ := f1_.symm; have f5_ := f3_.symm; clear f1_ f2_ f3_; subst f4_; subst f5_))
         refine norm_ (a' := ?_) ?_ ?_
         rotate_left
         ·simp only [putAll, Act.put, List.setIfInBounds_toArray, List.set_cons_zero, List.set_cons_succ]
          rfl
         refine one_ (i := 14) (N := none) #[true, true, true, true, true, true, true, true, true, true, true, true, true, true, true, false] rfl rfl (one_of HT_.out (by kernel_rfl)) (by decide) (fun K hK => ?_)
         have hs19 : w18.cell? ⟨gb1238, 0, none⟩ = some (.string (⟨#[]⟩ : ByteArray)) := (blk_cell BK1238.out 0).trans rfl
         have hfs19 := blk_frozen BK1238.out 0
         have hs21 : w18.cell? ⟨gb1238, 1, none⟩ = some (.slice none 0 0) := (blk_cell BK1238.out 1).trans rfl
         have hfs21 := blk_frozen BK1238.out 1
         have hs23 : w18.cell? ⟨gb1238, 2, none⟩ = some (.slice none 0 0) := (blk_cell BK1238.out 2).trans rfl
         have hfs23 := blk_frozen BK1238.out 2
         refine skip_ (w1 := ?_) (by rfl) rfl ?_ ?_
         rotate_left
         ·go_simp
          rfl
         refine hK.out _ _ ⟨((cell_far (p := ⟨gb1238, _, none⟩) (by first | exact Nat.ne_of_lt (Nat.lt_of_lt_of_le (by have := World.block_lt_of_cell? _ _ hw1228_0; first | rwa [add_block] at this | exact this) GW1238.out) | (rw [add_block]; exact Nat.ne_of_lt (Nat.lt_of_lt_of_le (by have := World.block_lt_of_cell? _ _ hw1228_0; first | rwa [add_block] at this | exact this) GW1238.out)) | (show (Addr.add _ _).block ≠ _; rw [add_block]; exact Nat.ne_of_lt (Nat.lt_of_lt_of_le (by have := World.block_lt_of_cell? _ _ hw1228_0; first | rwa [add_block] at this | exact this) GW1238.out)) | (dsimp only; exact Nat.ne_of_lt (Nat.lt_of_lt_of_le (by have := World.block_lt_of_cell? _ _ hw1228_0; first | rwa [add_block] at this | exact this) GW1238.out))) _).trans (((cell_far (p := ⟨gb1238, _, none⟩) (by first | exact Nat.ne_of_lt (Nat.lt_of_lt_of_le (by have := World.block_lt_of_cell? _ _ hw1228_0; first | rwa [add_block] at this | exact this) GW1238.out) | (rw [add_block]; exact Nat.ne_of_lt (Nat.lt_of_lt_of_le (by have := World.block_lt_of_cell? _ _ hw1228_0; first | rwa [add_block] at this | exact this) GW1238.out)) | (show (Addr.add _ _).block ≠ _; rw [add_block]; exact Nat.ne_of_lt (Nat.lt_of_lt_of_le (by have := World.block_lt_of_cell? _ _ hw1228_0; first | rwa [add_block] at this | exact this) GW1238.out)) | (dsimp only; exact Nat.ne_of_lt (Nat.lt_of_lt_of_le (by have := World.block_lt_of_cell? _ _ hw1228_0; first | rwa [add_block] at this | exact this) GW1238.out))) _).trans (((cell_far (p := ⟨gb1238, _, none⟩) (by first | exact Nat.ne_of_lt (Nat.lt_of_lt_of_le (by have := World.block_lt_of_cell? _ _ hw1228_0; first | rwa [add_block] at this | exact this) GW1238.out) | (rw [add_block]; exact Nat.ne_of_lt (Nat.lt_of_lt_of_le (by have := World.block_lt_of_cell? _ _ hw1228_0; first | rwa [add_block] at this | exact this) GW1238.out)) | (show (Addr.add _ _).block ≠ _; rw [add_block]; exact Nat.ne_of_lt (Nat.lt_of_lt_of_le (by have := World.block_lt_of_cell? _ _ hw1228_0; first | rwa [add_block] at this | exact this) GW1238.out)) | (dsimp only; exact Nat.ne_of_lt (Nat.lt_of_lt_of_le (by have := World.block_lt_of_cell? _ _ hw1228_0; first | rwa [add_block] at this | exact this) GW1238.out))) _).trans (hHeld.1)))))), ((cell_far (p := ⟨gb1238, _, none⟩) (by first | exact Nat.ne_of_lt (Nat.lt_of_lt_of_le (by have := World.block_lt_of_cell? _ _ hw1229_0; first | rwa [add_block] at this | exact this) GW1238.out) | (rw [add_block]; exact Nat.ne_of_lt (Nat.lt_of_lt_of_le (by have := World.block_lt_of_cell? _ _ hw1229_0; first | rwa [add_block] at this | exact this) GW1238.out)) | (show (Addr.add _ _).block ≠ _; rw [add_block]; exact Nat.ne_of_lt (Nat.lt_of_lt_of_le (by have := World.block_lt_of_cell? _ _ hw1229_0; first | rwa [add_block] at this | exact this) GW1238.out)) | (dsimp only; exact Nat.ne_of_lt (Nat.lt_of_lt_of_le (by have := World.block_lt_of_cell? _ _ hw1229_0; first | rwa [add_block] at this | exact this) GW1238.out))) _).trans (((cell_far (p := ⟨gb1238, _, none⟩) (by first | exact Nat.ne_of_lt (Nat.lt_of_lt_of_le (by have := World.block_lt_of_cell? _ _ hw1229_0; first | rwa [add_block] at this | exact this) GW1238.out) | (rw [add_block]; exact Nat.ne_of_lt (Nat.lt_of_lt_of_le (by have := World.block_lt_of_cell? _ _ hw1229_0; first | rwa [add_block] at this | exact this) GW1238.out)) | (show (Addr.add _ _).block ≠ _; rw [add_block]; exact Nat.ne_of_lt (Nat.lt_of_lt_of_le (by have := World.block_lt_of_cell? _ _ hw1229_0; first | rwa [add_block] at this | exact this) GW1238.out)) | (dsimp only; exact Nat.ne_of_lt (Nat.lt_of_lt_of_le (by have := World.block_lt_of_cell? _ _ hw1229_0; first | rwa [add_block] at this | exact this) GW1238.out))) _).trans (((cell_far (p := ⟨gb1238, _, none⟩) (by first | exact Nat.ne_of_lt (Nat.lt_of_lt_of_le (by have := World.block_lt_of_cell? _ _ hw1229_0; first | rwa [add_block] at this | exact this) GW1238.out) | (rw [add_block]; exact Nat.ne_of_lt (Nat.lt_of_lt_of_le (by have := World.block_lt_of_cell? _ _ hw1229_0; first | rwa [add_block] at this | exact this) GW1238.out)) | (show (Addr.add _ _).block ≠ _; rw [add_block]; exact Nat.ne_of_lt (Nat.lt_of_lt_of_le (by have := World.block_lt_of_cell? _ _ hw1229_0; first | rwa [add_block] at this | exact this) GW1238.out)) | (dsimp only; exact Nat.ne_of_lt (Nat.lt_of_lt_of_le (by have := World.block_lt_of_cell? _ _ hw1229_0; first | rwa [add_block] at this | exact this) GW1238.out))) _).trans (hHeld.2))))))⟩ (fun hHeld => ?_)
         clear hK K
         refine pz_ 15 13 ?_ T10m15_ rfl rfl (any_of HT_.out (by kernel_rfl)) ?_ ?_ ?_ ?_; rotate_left; intro w'; go_simp; with_reducible rfl; rotate_left; simp only [nm_]; rfl
         refine done_ (done_of HT_.out (by kernel_rfl)) ?_
         have H := HH_.out
         clear HH_
         by_cases c14 : t1237 = 1
         ·rw [if_pos c14] at H
          have c14b0 : (t1237 == 1) = true := beq_iff_eq.mpr c14
          have c14b1 : (t1237 != 1) = false := bne_eq_false_iff_eq.mpr c14
          clear c14
          simp only [Option.some.injEq, Prod.mk.injEq] at H
          obtain ⟨rfl, rfl, rfl⟩ := H
          try go_wp2
          go_ret3
          exact ⟨_, _, by rfl, by first | exact Kd.S_nil _ _ _ _ _ | exact Kd.N_nil _ _ _ _ _ | exact Kd.V_nil _ _ _ _ _ | exact Kd.Q_nil _ _ _ _ _ | exact Kd.R_nil _ _ _ _ _, by first | exact Kd.R_nil _ _ _ _ _ | exact Kd.N_nil _ _ _ _ _ | exact Kd.V_nil _ _ _ _ _ | exact Kd.Q_nil _ _ _ _ _ | exact Kd.S_nil _ _ _ _ _, by repeat (first | (with_reducible first | exact HB.out | apply below_alloc | apply pw_below_drewN | apply below_drew1 | refine below_set ?_ GE1238.out) | exact HB.out)⟩
         ·rw [if_neg c14] at H
          have c14b0 : (t1237 == 1) = false := beq_eq_false_iff_ne.mpr c14
          have c14b1 : (t1237 != 1) = true := bne_iff_ne.mpr c14
          by_cases c24 : t1237 = 0
          ·rw [if_pos c24] at H
           have c24b0 : (t1237 == 0) = true := beq_iff_eq.mpr c24
           have c24b1 : (t1237 != 0) = false := bne_eq_false_iff_eq.mpr c24
           clear c24
           by_cases c25 : x9_2.length < 2199023255552
           ·rw [if_pos c25] at H
            have LMc25 := Aside0.mk c25
            clear c25
            obtain ⟨y1239, hy1239⟩ : ∃ y_ : List (S76), y_ = (x9_2 ++ [(⟨t1230, t1231, t1234⟩ : S76)]) := ⟨_, rfl⟩
            replace H : (foghornref20_All.l0 k2 l0 a1 l2 y1239 x10_2 (wrap64 (x11_2 + 1))) = some (r1, r2, r3) := by first | (rw [hy1239]; exact H) | exact H
            have Ny1239 := Aside0.mk hy1239
            clear hy1239
            have H' := Aside0.mk H
            clear H
            have n0_ : Aside0 (Kd.S k76 76 (((w18.setCell ⟨gb1238, 0, none⟩ (.string t1230)).setCell ⟨gb1238, 1, none⟩ (.slice Ao20 t1231.length co20)).setCell ⟨gb1238, 2, none⟩ (.slice Ao22 t1234.length co22)) w.heap.size (fun k_ => some k_ ≠ (u10 : Value).ownBlock ∧ some k_ ≠ (.slice Ao20 t1231.length co20 : Value).ownBlock ∧ some k_ ≠ (.slice Ao22 t1234.length co22 : Value).ownBlock ∧ k_ ≠ gb1238) u9 x9_2) := ⟨by (with_reducible repeat (first | apply Kd.S_alloc | apply Kd.S_drewN | apply Kd.S_drew)); exact Kd.S_mono (Kd.S_far (p := ⟨gb1238, 2, none⟩) (Kd.S_far (p := ⟨gb1238, 1, none⟩) (Kd.S_far (p := ⟨gb1238, 0, none⟩) (Kd.S_mono HO_9.out (fun k_ hk => (⟨hk, hk.2.2.2⟩ : _ ∧ k_ ≠ gb1238))) (fun _ hk => hk.2) (.string t1230)) (fun _ hk => hk.2) (.slice Ao20 t1231.length co20)) (fun _ hk => hk.2) (.slice Ao22 t1234.length co22)) (fun _ hk => ⟨hk.1.2.2.1, ⟨hk.1.1, ⟨hk.1.2.1, hk.1.2.2.2⟩⟩⟩)⟩
            have n1_ : Aside0 (Kd.R (Kd.int .i64) 3 (((w18.setCell ⟨gb1238, 0, none⟩ (.string t1230)).setCell ⟨gb1238, 1, none⟩ (.slice Ao20 t1231.length co20)).setCell ⟨gb1238, 2, none⟩ (.slice Ao22 t1234.length co22)) w.heap.size (fun k_ => some k_ ≠ (.slice Ao20 t1231.length co20 : Value).ownBlock ∧ some k_ ≠ (.slice Ao22 t1234.length co22 : Value).ownBlock) u10 x10_2) := ⟨by (with_reducible repeat (first | apply Kd.R_alloc | apply Kd.R_drewN | apply Kd.R_drew)); exact Kd.R_mono (Kd.R_far (p := ⟨gb1238, 2, none⟩) (Kd.R_far (p := ⟨gb1238, 1, none⟩) (Kd.R_far (p := ⟨gb1238, 0, none⟩) (Kd.R_types HO_10.out BK1238.out (by decide)) (fun _ hk => hk.2) (.string t1230)) (fun _ hk => hk.2) (.slice Ao20 t1231.length co20)) (fun _ hk => hk.2) (.slice Ao22 t1234.length co22)) (fun _ hk => ⟨hk.1.1, hk.1.2⟩)⟩
            have n2_ : Aside0 (Kd.R (Kd.int .i64) 3 (((w18.setCell ⟨gb1238, 0, none⟩ (.string t1230)).setCell ⟨gb1238, 1, none⟩ (.slice Ao20 t1231.length co20)).setCell ⟨gb1238, 2, none⟩ (.slice Ao22 t1234.length co22)) w.heap.size (fun k_ => some k_ ≠ (u10 : Value).ownBlock ∧ some k_ ≠ (.slice Ao22 t1234.length co22 : Value).ownBlock) (.slice Ao20 t1231.length co20) t1231) := ⟨by (with_reducible repeat (first | apply Kd.R_alloc | apply Kd.R_drewN | apply Kd.R_drew)); exact Kd.R_mono (Kd.R_far (p := ⟨gb1238, 2, none⟩) (Kd.R_far (p := ⟨gb1238, 1, none⟩) (Kd.R_far (p := ⟨gb1238, 0, none⟩) (Kd.R_types HO1233.out BK1238.out (by decide)) (fun _ hk => hk.2) (.string t1230)) (fun _ hk => hk.2) (.slice Ao20 t1231.length co20)) (fun _ hk => hk.2) (.slice Ao22 t1234.length co22)) (fun _ hk => ⟨hk.1.2, hk.1.1⟩)⟩
            have n3_ : Aside0 (Kd.R (Kd.int .i64) 3 (((w18.setCell ⟨gb1238, 0, none⟩ (.string t1230)).setCell ⟨gb1238, 1, none⟩ (.slice Ao20 t1231.length co20)).setCell ⟨gb1238, 2, none⟩ (.slice Ao22 t1234.length co22)) w.heap.size (fun k_ => some k_ ≠ (u10 : Value).ownBlock ∧ some k_ ≠ (.slice Ao20 t1231.length co20 : Value).ownBlock) (.slice Ao22 t1234.length co22) t1234) := ⟨by (with_reducible repeat (first | apply Kd.R_alloc | apply Kd.R_drewN | apply Kd.R_drew)); exact Kd.R_mono (Kd.R_far (p := ⟨gb1238, 2, none⟩) (Kd.R_far (p := ⟨gb1238, 1, none⟩) (Kd.R_far (p := ⟨gb1238, 0, none⟩) (Kd.R_types HO1236.out BK1238.out (by decide)) (fun _ hk => hk.2) (.string t1230)) (fun _ hk => hk.2) (.slice Ao20 t1231.length co20)) (fun _ hk => hk.2) (.slice Ao22 t1234.length co22)) (fun _ hk => ⟨hk.1.2, hk.1.1⟩)⟩
            have n4_ : Aside0 ((((w18.setCell ⟨gb1238, 0, none⟩ (.string t1230)).setCell ⟨gb1238, 1, none⟩ (.slice Ao20 t1231.length co20)).setCell ⟨gb1238, 2, none⟩ (.slice Ao22 t1234.length co22)).heap[gb1238]? = some (.cells #[.string t1230, .slice Ao20 t1231.length co20, .slice Ao22 t1234.length co22] 76 (0, 0))) := ⟨by (with_reducible repeat (first | refine blk_drewN ?_ _ | refine blk_drew ?_ | refine blk_alloc ?_ _)); refine blk_put (cs := #[.string t1230, .slice Ao20 t1231.length co20, .slice none 0 0]) ?_ 2 _ rfl; (with_reducible repeat (first | refine blk_drewN ?_ _ | refine blk_drew ?_ | refine blk_alloc ?_ _)); refine blk_put (cs := #[.string t1230, .slice none 0 0, .slice none 0 0]) ?_ 1 _ rfl; (with_reducible repeat (first | refine blk_drewN ?_ _ | refine blk_drew ?_ | refine blk_alloc ?_ _)); refine blk_put (cs := #[.string (⟨#[]⟩ : ByteArray), .slice none 0 0, .slice none 0 0]) ?_ 0 _ rfl; (with_reducible repeat (first | refine blk_drewN ?_ _ | refine blk_drew ?_ | refine blk_alloc ?_ _)); exact BK1238.out⟩
            have n5_ : Aside0 (Below w.heap.size w (((w18.setCell ⟨gb1238, 0, none⟩ (.string t1230)).setCell ⟨gb1238, 1, none⟩ (.slice Ao20 t1231.length co20)).setCell ⟨gb1238, 2, none⟩ (.slice Ao22 t1234.length co22))) := ⟨by repeat (first | (with_reducible first | exact HB.out | apply below_alloc | apply pw_below_drewN | apply below_drew1 | refine below_set ?_ GE1238.out) | exact HB.out)⟩
            (try clear HO_9)
            (try clear HO_10)
            (try clear HO1233)
            (try clear HO1236)
            (try clear BK1238)
            (try clear HB)
            generalize (((w18.setCell ⟨gb1238, 0, none⟩ (.string t1230)).setCell ⟨gb1238, 1, none⟩ (.slice Ao20 t1231.length co20)).setCell ⟨gb1238, 2, none⟩ (.slice Ao22 t1234.length co22)) = w35 at n0_ n1_ n2_ n3_ n4_ n5_ ⊢
            have HO_9 := n0_
            have HO_10 := n1_
            have HO1233 := n2_
            have HO1236 := n3_
            have BK1238 := n4_
            have HB := n5_
            clear n0_ n1_ n2_ n3_ n4_ n5_
            have hcz36_0 : w35.cell? ⟨gb1238, 0, none⟩ = some (.string t1230) := (blk_cell BK1238.out 0).trans rfl
            have hcz36_1 : w35.cell? ⟨gb1238, 1, none⟩ = some (.slice Ao20 t1231.length co20) := (blk_cell BK1238.out 1).trans rfl
            have hcz36_2 : w35.cell? ⟨gb1238, 2, none⟩ = some (.slice Ao22 t1234.length co22) := (blk_cell BK1238.out 2).trans rfl
            have hfz36_0 := blk_frozen BK1238.out 0
            have hfz36_1 := blk_frozen BK1238.out 1
            have hfz36_2 := blk_frozen BK1238.out 2
            try go_wp2_with (first | ((with_reducible refine gate_builtin (b := .append) (xs := #[.tmp 64, .tmp 66]) rfl ?_); (try (refine gate_guard (by rfl) ?_; dsimp only)); at_builtin; refine Kd.S_append k76 (w0 := w) w.heap.size rfl (.tmp 64) (.tmp 66) 83 76 (.agg #[(.string ⟨#[]⟩), (.slice none 0 0), (.slice none 0 0)]) 64 rfl Try.underlying83 info76 rfl (by decide) (by omega) u9 x9_2 (⟨t1230, t1231, t1234⟩ : S76) [.string t1230, .slice Ao20 t1231.length co20, .slice Ao22 t1234.length co22] (fun k_ => some k_ ≠ (u10 : Value).ownBlock ∧ k_ ≠ gb1238) (fun k_ => some k_ = (.slice Ao20 t1231.length co20 : Value).ownBlock ∨ some k_ = (.slice Ao22 t1234.length co22 : Value).ownBlock) rfl rfl ?aP (fun k_ hk_ => hk_.elim (fun h_ => ((Kd.R_mono (ok' := fun k_ => ((fun k_ => some k_ ≠ (u10 : Value).ownBlock ∧ k_ ≠ gb1238)) k_ ∧ some k_ ≠ (u9 : Value).ownBlock) (Kd.R_types (Kd.R_apart' HO1233.out (Kd.S_typed HO_9.out) (by decide)) BK1238.out (by decide)) (fun k_ hk => ⟨⟨hk.1.1.1, hk.2⟩, hk.1.2⟩))).1 k_ h_.symm) (fun h_ => ((Kd.R_mono (ok' := fun k_ => ((fun k_ => some k_ ≠ (u10 : Value).ownBlock ∧ k_ ≠ gb1238)) k_ ∧ some k_ ≠ (u9 : Value).ownBlock) (Kd.R_types (Kd.R_apart' HO1236.out (Kd.S_typed HO_9.out) (by decide)) BK1238.out (by decide)) (fun k_ hk => ⟨⟨hk.1.1.1, hk.2⟩, hk.1.2⟩))).1 k_ h_.symm)) ?aF ?aO ?aB ?aS ?aL ?_; (case aP => exact k76_mkM _ _ _ (⟨t1230, t1231, t1234⟩ : S76) (Kd.R_mono (Kd.R_tight rfl (Kd.R_mono (ok' := fun k_ => ((fun k_ => some k_ ≠ (u10 : Value).ownBlock ∧ k_ ≠ gb1238)) k_ ∧ some k_ ≠ (u9 : Value).ownBlock) (Kd.R_types (Kd.R_apart' HO1233.out (Kd.S_typed HO_9.out) (by decide)) BK1238.out (by decide)) (fun k_ hk => ⟨⟨hk.1.1.1, hk.2⟩, hk.1.2⟩))) (fun _ h_ => Or.inl h_)) (Kd.R_mono (Kd.R_tight rfl (Kd.R_mono (ok' := fun k_ => ((fun k_ => some k_ ≠ (u10 : Value).ownBlock ∧ k_ ≠ gb1238)) k_ ∧ some k_ ≠ (u9 : Value).ownBlock) (Kd.R_types (Kd.R_apart' HO1236.out (Kd.S_typed HO_9.out) (by decide)) BK1238.out (by decide)) (fun k_ hk => ⟨⟨hk.1.1.1, hk.2⟩, hk.1.2⟩))) (fun _ h_ => Or.inr (h_)))); (case aB => exact HB.out); (case aF => exact (fun k_ hk => ⟨Kd.fresh' (Kd.R_lt HO_10.out) k_ hk, Kd.freshB (g := gb1238) (o := .cells #[.string t1230, .slice Ao20 t1231.length co20, .slice Ao22 t1234.length co22] 76 (0, 0)) (by (with_reducible repeat (first | refine blk_drewN ?_ _ | refine blk_drew ?_ | refine blk_alloc ?_ _)); exact BK1238.out) k_ hk⟩)); (case aO => exact (by (with_reducible repeat (first | apply Kd.S_alloc | apply Kd.S_drewN | apply Kd.S_drew)); exact Kd.S_mono HO_9.out (fun k_ hk => ⟨⟨hk.1, hk.2.2.2⟩, fun e_ => e_.elim (fun h_ => hk.2.1 h_) (fun h_ => hk.2.2.1 h_)⟩))); (case aS => exact (below_size HB.out)); (case aL => have := LMc25.out; omega); intro v1240 w37 ho hb hg hat; rw [← Ny1239.out] at ho; have n0_ := Aside0.mk (Kd.R_over' HO_10.out (Kd.S_typed HO_9.out) (by decide) hg); have n1_ := Aside0.mk (blk_grown (g := gb1238) (o := .cells #[.string t1230, .slice Ao20 t1231.length co20, .slice Ao22 t1234.length co22] 76 (0, 0)) (by (with_reducible repeat (first | refine blk_drewN ?_ _ | refine blk_drew ?_ | refine blk_alloc ?_ _)); exact BK1238.out) hg (Kd.S_away HO_9.out (fun _ hk => hk.2.2.2))); have n2_ := Aside0.mk (hb); have n3_ := Aside0.mk (ho); clear HO_10; clear BK1238; clear HB; clear HO_9; clear HO1233; clear HO1236; have HO_10 := n0_; have BK1238 := n1_; have HB := n2_; have HO1241 := n3_; clear n0_ n1_ n2_ n3_; clear ho hb hg hat))
            first | go_roundg k2 | (simp only [add_plain] at *; go_roundg k2)
            case measure => have := HJ3.out; have := HK2.out; omega
            case rel => exact ⟨(y1239), (x10_2), (wrap64 (x11_2 + 1)), (by rfl), H', ⟨by have := HJ3.out; have := HK2.out; omega⟩, ⟨by (with_reducible repeat (first | apply Kd.S_alloc | apply Kd.S_drewN | apply Kd.S_drew)); exact Kd.S_mono HO1241.out (fun _ hk => hk.1)⟩, ⟨by (with_reducible repeat (first | apply Kd.R_alloc | apply Kd.R_drewN | apply Kd.R_drew)); exact Kd.R_mono HO_10.out (fun _ hk => trivial)⟩, ⟨HB.out⟩⟩
           ·rw [if_neg c25] at H
            exact absurd H (by simp)
          ·rw [if_neg c24] at H
           have c24b0 : (t1237 == 0) = false := beq_eq_false_iff_ne.mpr c24
           have c24b1 : (t1237 != 0) = true := bne_iff_ne.mpr c24
           by_cases c38 : x10_2.length < 17592186044416
           ·rw [if_pos c38] at H
            have LMc38 := Aside0.mk c38
            clear c38
            obtain ⟨y1242, hy1242⟩ : ∃ y_ : List Int, y_ = (x10_2 ++ [x11_2]) := ⟨_, rfl⟩
            replace H : (if x9_2.length < 2199023255552 then (foghornref20_All.l0 k2 l0 a1 l2 (x9_2 ++ [(⟨t1230, t1231, t1234⟩ : S76)]) y1242 (wrap64 (x11_2 + 1))) else (none)) = some (r1, r2, r3) := by first | (rw [hy1242]; exact H) | exact H
            have Ny1242 := Aside0.mk hy1242
            clear hy1242
            by_cases c39 : x9_2.length < 2199023255552
            ·rw [if_pos c39] at H
             have LMc39 := Aside0.mk c39
             clear c39
             obtain ⟨y1245, hy1245⟩ : ∃ y_ : List (S76), y_ = (x9_2 ++ [(⟨t1230, t1231, t1234⟩ : S76)]) := ⟨_, rfl⟩
             replace H : (foghornref20_All.l0 k2 l0 a1 l2 y1245 y1242 (wrap64 (x11_2 + 1))) = some (r1, r2, r3) := by first | (rw [hy1245]; exact H) | exact H
             have Ny1245 := Aside0.mk hy1245
             clear hy1245
             have H' := Aside0.mk H
             clear H
             try go_wp2_with (first | ((with_reducible refine gate_builtin (b := .append) (xs := #[.tmp 60, .tmp 62]) rfl ?_); (try (refine gate_guard (by rfl) ?_; dsimp only)); at_builtin; refine Kd.R_append (Kd.int .i64) (w0 := w) w.heap.size rfl (.tmp 60) (.tmp 62) 60 3 (.int .i64 0) 8 rfl Try.underlying60 info3 rfl (by decide) (by omega) u10 x10_2 x11_2 [.int .i64 x11_2] (fun k_ => some k_ ≠ (.slice Ao20 t1231.length co20 : Value).ownBlock ∧ some k_ ≠ (.slice Ao22 t1234.length co22 : Value).ownBlock) (fun _ => False) rfl (by first | (go_simp; done) | (go_simp; rfl)) ?aP (fun _ hk => hk.elim) ?aF ?aO ?aB ?aS ?aL ?_; (case aP => exact rfl); (case aB => exact (by repeat (first | (with_reducible first | exact HB.out | apply below_alloc | apply pw_below_drewN | apply below_drew1 | refine below_set ?_ GE1238.out) | exact HB.out))); (case aF => exact (fun k_ hk => ⟨Kd.fresh' (Kd.R_lt (by (with_reducible repeat (first | apply Kd.R_alloc | apply Kd.R_drewN | apply Kd.R_drew)); exact (Kd.R_mono (Kd.R_far (p := ⟨gb1238, 2, none⟩) (Kd.R_far (p := ⟨gb1238, 1, none⟩) (Kd.R_far (p := ⟨gb1238, 0, none⟩) (Kd.R_types HO1233.out BK1238.out (by decide)) (fun _ hk => hk.2) (.string t1230)) (fun _ hk => hk.2) (.slice Ao20 t1231.length co20)) (fun _ hk => hk.2) (.slice Ao22 t1234.length co22)) (fun _ h_ => h_.1)))) k_ hk, Kd.fresh' (Kd.R_lt (by (with_reducible repeat (first | apply Kd.R_alloc | apply Kd.R_drewN | apply Kd.R_drew)); exact (Kd.R_mono (Kd.R_far (p := ⟨gb1238, 2, none⟩) (Kd.R_far (p := ⟨gb1238, 1, none⟩) (Kd.R_far (p := ⟨gb1238, 0, none⟩) (Kd.R_types HO1236.out BK1238.out (by decide)) (fun _ hk => hk.2) (.string t1230)) (fun _ hk => hk.2) (.slice Ao20 t1231.length co20)) (fun _ hk => hk.2) (.slice Ao22 t1234.length co22)) (fun _ h_ => h_.1)))) k_ hk⟩)); (case aO => exact (by (with_reducible repeat (first | apply Kd.R_alloc | apply Kd.R_drewN | apply Kd.R_drew)); exact Kd.R_mono (Kd.R_far (p := ⟨gb1238, 2, none⟩) (Kd.R_far (p := ⟨gb1238, 1, none⟩) (Kd.R_far (p := ⟨gb1238, 0, none⟩) (Kd.R_types HO_10.out BK1238.out (by decide)) (fun _ hk => hk.2) (.string t1230)) (fun _ hk => hk.2) (.slice Ao20 t1231.length co20)) (fun _ hk => hk.2) (.slice Ao22 t1234.length co22)) (fun _ hk => ⟨hk.1.1, hk.1.2⟩))); (case aS => exact (below_size (by repeat (first | (with_reducible first | exact HB.out | apply below_alloc | apply pw_below_drewN | apply below_drew1 | refine below_set ?_ GE1238.out) | exact HB.out)))); (case aL => have := LMc38.out; omega); intro v1243 w49 ho hb hg hat; rw [← Ny1242.out] at ho; have n0_ := Aside0.mk (Kd.S_after (ok := (fun k_ => some k_ ≠ (.slice Ao20 t1231.length co20 : Value).ownBlock ∧ some k_ ≠ (.slice Ao22 t1234.length co22 : Value).ownBlock ∧ k_ ≠ gb1238)) (by (with_reducible repeat (first | apply Kd.S_alloc | apply Kd.S_drewN | apply Kd.S_drew)); exact Kd.S_mono (Kd.S_far (p := ⟨gb1238, 2, none⟩) (Kd.S_far (p := ⟨gb1238, 1, none⟩) (Kd.S_far (p := ⟨gb1238, 0, none⟩) (Kd.S_mono HO_9.out (fun k_ hk => (⟨hk, hk.2.2.2⟩ : _ ∧ k_ ≠ gb1238))) (fun _ hk => hk.2) (.string t1230)) (fun _ hk => hk.2) (.slice Ao20 t1231.length co20)) (fun _ hk => hk.2) (.slice Ao22 t1234.length co22)) (fun _ hk => ⟨⟨hk.1.1, ⟨hk.1.2.1, hk.1.2.2.2⟩⟩, hk.1.2.2.1⟩)) hg hat); have n1_ := Aside0.mk (Kd.R_after (ok := (fun k_ => some k_ ≠ (.slice Ao22 t1234.length co22 : Value).ownBlock)) (by (with_reducible repeat (first | apply Kd.R_alloc | apply Kd.R_drewN | apply Kd.R_drew)); exact Kd.R_mono (Kd.R_far (p := ⟨gb1238, 2, none⟩) (Kd.R_far (p := ⟨gb1238, 1, none⟩) (Kd.R_far (p := ⟨gb1238, 0, none⟩) (Kd.R_types HO1233.out BK1238.out (by decide)) (fun _ hk => hk.2) (.string t1230)) (fun _ hk => hk.2) (.slice Ao20 t1231.length co20)) (fun _ hk => hk.2) (.slice Ao22 t1234.length co22)) (fun _ hk => ⟨hk.1.1, hk.1.2⟩)) hg hat); have n2_ := Aside0.mk (Kd.R_after (ok := (fun k_ => some k_ ≠ (.slice Ao20 t1231.length co20 : Value).ownBlock)) (by (with_reducible repeat (first | apply Kd.R_alloc | apply Kd.R_drewN | apply Kd.R_drew)); exact Kd.R_mono (Kd.R_far (p := ⟨gb1238, 2, none⟩) (Kd.R_far (p := ⟨gb1238, 1, none⟩) (Kd.R_far (p := ⟨gb1238, 0, none⟩) (Kd.R_types HO1236.out BK1238.out (by decide)) (fun _ hk => hk.2) (.string t1230)) (fun _ hk => hk.2) (.slice Ao20 t1231.length co20)) (fun _ hk => hk.2) (.slice Ao22 t1234.length co22)) (fun _ hk => ⟨hk.1.1, hk.1.2⟩)) hg hat); have n3_ := Aside0.mk (blk_grown (g := gb1238) (o := .cells #[.string t1230, .slice Ao20 t1231.length co20, .slice Ao22 t1234.length co22] 76 (0, 0)) (by (with_reducible repeat (first | refine blk_drewN ?_ _ | refine blk_drew ?_ | refine blk_alloc ?_ _)); refine blk_put (cs := #[.string t1230, .slice Ao20 t1231.length co20, .slice none 0 0]) ?_ 2 _ rfl; (with_reducible repeat (first | refine blk_drewN ?_ _ | refine blk_drew ?_ | refine blk_alloc ?_ _)); refine blk_put (cs := #[.string t1230, .slice none 0 0, .slice none 0 0]) ?_ 1 _ rfl; (with_reducible repeat (first | refine blk_drewN ?_ _ | refine blk_drew ?_ | refine blk_alloc ?_ _)); refine blk_put (cs := #[.string (⟨#[]⟩ : ByteArray), .slice none 0 0, .slice none 0 0]) ?_ 0 _ rfl; (with_reducible repeat (first | refine blk_drewN ?_ _ | refine blk_drew ?_ | refine blk_alloc ?_ _)); exact BK1238.out) hg (Kd.R_ne HO_10.out BK1238.out (by decide))); have n4_ := Aside0.mk (hb); have n5_ := Aside0.mk (ho); clear HO_9; clear HO1233; clear HO1236; clear BK1238; clear HB; clear HO_10; have HO_9 := n0_; have HO1233 := n1_; have HO1236 := n2_; have BK1238 := n3_; have HB := n4_; have HO1244 := n5_; clear n0_ n1_ n2_ n3_ n4_ n5_; clear ho hb hg hat; have hcz50_0 : w49.cell? ⟨gb1238, 0, none⟩ = some (.string t1230) := (blk_cell BK1238.out 0).trans rfl; have hcz50_1 : w49.cell? ⟨gb1238, 1, none⟩ = some (.slice Ao20 t1231.length co20) := (blk_cell BK1238.out 1).trans rfl; have hcz50_2 : w49.cell? ⟨gb1238, 2, none⟩ = some (.slice Ao22 t1234.length co22) := (blk_cell BK1238.out 2).trans rfl; have hfz50_0 := blk_frozen BK1238.out 0; have hfz50_1 := blk_frozen BK1238.out 1; have hfz50_2 := blk_frozen BK1238.out 2) | ((with_reducible refine gate_builtin (b := .append) (xs := #[.tmp 64, .tmp 66]) rfl ?_); (try (refine gate_guard (by rfl) ?_; dsimp only)); at_builtin; refine Kd.S_append k76 (w0 := w) w.heap.size rfl (.tmp 64) (.tmp 66) 83 76 (.agg #[(.string ⟨#[]⟩), (.slice none 0 0), (.slice none 0 0)]) 64 rfl Try.underlying83 info76 rfl (by decide) (by omega) u9 x9_2 (⟨t1230, t1231, t1234⟩ : S76) [.string t1230, .slice Ao20 t1231.length co20, .slice Ao22 t1234.length co22] (fun k_ => some k_ ≠ (v1243 : Value).ownBlock ∧ k_ ≠ gb1238) (fun k_ => some k_ = (.slice Ao20 t1231.length co20 : Value).ownBlock ∨ some k_ = (.slice Ao22 t1234.length co22 : Value).ownBlock) rfl rfl ?aP (fun k_ hk_ => hk_.elim (fun h_ => ((Kd.R_mono (ok' := fun k_ => ((fun k_ => some k_ ≠ (v1243 : Value).ownBlock ∧ k_ ≠ gb1238)) k_ ∧ some k_ ≠ (u9 : Value).ownBlock) (Kd.R_types (Kd.R_apart' HO1233.out (Kd.S_typed HO_9.out) (by decide)) BK1238.out (by decide)) (fun k_ hk => ⟨⟨hk.1.1.2, hk.2⟩, hk.1.2⟩))).1 k_ h_.symm) (fun h_ => ((Kd.R_mono (ok' := fun k_ => ((fun k_ => some k_ ≠ (v1243 : Value).ownBlock ∧ k_ ≠ gb1238)) k_ ∧ some k_ ≠ (u9 : Value).ownBlock) (Kd.R_types (Kd.R_apart' HO1236.out (Kd.S_typed HO_9.out) (by decide)) BK1238.out (by decide)) (fun k_ hk => ⟨⟨hk.1.1.2, hk.2⟩, hk.1.2⟩))).1 k_ h_.symm)) ?aF ?aO ?aB ?aS ?aL ?_; (case aP => exact k76_mkM _ _ _ (⟨t1230, t1231, t1234⟩ : S76) (Kd.R_mono (Kd.R_tight rfl (Kd.R_mono (ok' := fun k_ => ((fun k_ => some k_ ≠ (v1243 : Value).ownBlock ∧ k_ ≠ gb1238)) k_ ∧ some k_ ≠ (u9 : Value).ownBlock) (Kd.R_types (Kd.R_apart' HO1233.out (Kd.S_typed HO_9.out) (by decide)) BK1238.out (by decide)) (fun k_ hk => ⟨⟨hk.1.1.2, hk.2⟩, hk.1.2⟩))) (fun _ h_ => Or.inl h_)) (Kd.R_mono (Kd.R_tight rfl (Kd.R_mono (ok' := fun k_ => ((fun k_ => some k_ ≠ (v1243 : Value).ownBlock ∧ k_ ≠ gb1238)) k_ ∧ some k_ ≠ (u9 : Value).ownBlock) (Kd.R_types (Kd.R_apart' HO1236.out (Kd.S_typed HO_9.out) (by decide)) BK1238.out (by decide)) (fun k_ hk => ⟨⟨hk.1.1.2, hk.2⟩, hk.1.2⟩))) (fun _ h_ => Or.inr (h_)))); (case aB => exact HB.out); (case aF => exact (fun k_ hk => ⟨Kd.fresh' (Kd.R_lt HO1244.out) k_ hk, Kd.freshB (g := gb1238) (o := .cells #[.string t1230, .slice Ao20 t1231.length co20, .slice Ao22 t1234.length co22] 76 (0, 0)) (by (with_reducible repeat (first | refine blk_drewN ?_ _ | refine blk_drew ?_ | refine blk_alloc ?_ _)); exact BK1238.out) k_ hk⟩)); (case aO => exact (by (with_reducible repeat (first | apply Kd.S_alloc | apply Kd.S_drewN | apply Kd.S_drew)); exact Kd.S_mono HO_9.out (fun k_ hk => ⟨⟨hk.2, hk.1.2.2⟩, fun e_ => e_.elim (fun h_ => hk.1.1 h_) (fun h_ => hk.1.2.1 h_)⟩))); (case aS => exact (below_size HB.out)); (case aL => have := LMc39.out; omega); intro v1246 w51 ho hb hg hat; rw [← Ny1245.out] at ho; have n0_ := Aside0.mk (blk_grown (g := gb1238) (o := .cells #[.string t1230, .slice Ao20 t1231.length co20, .slice Ao22 t1234.length co22] 76 (0, 0)) (by (with_reducible repeat (first | refine blk_drewN ?_ _ | refine blk_drew ?_ | refine blk_alloc ?_ _)); exact BK1238.out) hg (Kd.S_away HO_9.out (fun _ hk => hk.1.2.2))); have n1_ := Aside0.mk (Kd.R_over' HO1244.out (Kd.S_typed HO_9.out) (by decide) hg); have n2_ := Aside0.mk (hb); have n3_ := Aside0.mk (ho); clear BK1238; clear HO1244; clear HB; clear HO_9; clear HO1233; clear HO1236; have BK1238 := n0_; have HO1244 := n1_; have HB := n2_; have HO1247 := n3_; clear n0_ n1_ n2_ n3_; clear ho hb hg hat))
             first | go_roundg k2 | (simp only [add_plain] at *; go_roundg k2)
             case measure => have := HJ3.out; have := HK2.out; omega
             case rel => exact ⟨(y1245), (y1242), (wrap64 (x11_2 + 1)), (by rfl), H', ⟨by have := HJ3.out; have := HK2.out; omega⟩, ⟨by (with_reducible repeat (first | apply Kd.S_alloc | apply Kd.S_drewN | apply Kd.S_drew)); exact Kd.S_mono HO1247.out (fun _ hk => hk.1)⟩, ⟨by (with_reducible repeat (first | apply Kd.R_alloc | apply Kd.R_drewN | apply Kd.R_drew)); exact Kd.R_mono HO1244.out (fun _ hk => trivial)⟩, ⟨HB.out⟩⟩
            ·rw [if_neg c39] at H
             exact absurd H (by simp)
           ·rw [if_neg c38] at H
            exact absurd H (by simp)
        ·rw [if_neg c12] at H
         exact absurd H (by simp)
       ·rw [if_neg c11] at H
        exact absurd H (by simp)
      ·rw [if_neg c10] at H
       have c10b0 : decide (x11_2 < (l0.length : Int)) = false := decide_eq_false c10
       clear c10
       simp only [Option.some.injEq, Prod.mk.injEq] at H
       obtain ⟨rfl, rfl, rfl⟩ := H
       go_wp2
       go_ret3
       exact ⟨_, _, by rfl, by (with_reducible repeat (first | apply Kd.S_alloc | apply Kd.S_drewN | apply Kd.S_drew)); exact HO_9.out, by (with_reducible repeat (first | apply Kd.R_alloc | apply Kd.R_drewN | apply Kd.R_drew)); exact HO_10.out, HB.out⟩
end Go.Proofs.Ytncoakokdajibaa.Q
