import Derived.Test.YtncoakokdajibaaMendManyStepW
import Derived.Test.YtncoakokdajibaaMendManyK0
import Derived.Test.YtncoakokdajibaaMendManyF1
import Derived.Test.YtncoakokdajibaaMendManyQ0
-- Printed by myprint.py (ours) over the kit's printer, out of the translation.
namespace Go.Proofs.Ytncoakokdajibaa.Q
open Go.RowKit Go.Proofs.YtncoakokdajibaaW.PrintWords Go.Proofs.YtncoakokdajibaaW.PrintLast Go.Proofs.YtncoakokdajibaaW.PrintMore
attribute [local go_sem] ArrW.ptrOf_slice unary_neg_float unary_neg_complex run_store_float run_store_complex max2_int min2_int max_two min_two max_three min_three max_four min_four   -- for this text's walks alone
set_option linter.unusedVariables false
set_option linter.unusedSimpArgs false
def T1m0_ : Array Bool := (List.replicate 1 true ++ List.replicate 13 false).toArray
def T1m1_ : Array Bool := (List.replicate 2 true ++ List.replicate 12 false).toArray
def T1m2_ : Array Bool := (List.replicate 3 true ++ List.replicate 11 false).toArray
def T1m3_ : Array Bool := (List.replicate 3 true ++ List.replicate 1 false ++ List.replicate 1 true ++ List.replicate 9 false).toArray
def T1m4_ : Array Bool := (List.replicate 3 true ++ List.replicate 1 false ++ List.replicate 2 true ++ List.replicate 8 false).toArray
def T1m5_ : Array Bool := (List.replicate 3 true ++ List.replicate 1 false ++ List.replicate 3 true ++ List.replicate 7 false).toArray
def T1m6_ : Array Bool := (List.replicate 3 true ++ List.replicate 1 false ++ List.replicate 4 true ++ List.replicate 6 false).toArray
def T1m7_ : Array Bool := (List.replicate 3 true ++ List.replicate 1 false ++ List.replicate 4 true ++ List.replicate 1 false ++ List.replicate 1 true ++ List.replicate 4 false).toArray
def T1m8_ : Array Bool := (List.replicate 8 true ++ List.replicate 1 false ++ List.replicate 1 true ++ List.replicate 4 false).toArray
def T1m9_ : Array Bool := (List.replicate 10 true ++ List.replicate 4 false).toArray
def T1m10_ : Array Bool := (List.replicate 12 true ++ List.replicate 2 false).toArray
def T1m11_ : Array Bool := (List.replicate 13 true ++ List.replicate 1 false).toArray
set_option maxHeartbeats 8000000 in
set_option maxRecDepth 100000 in
theorem mend_locator.calls (k : Nat) (A0 : Option Addr) (c0 : Nat) (l0 : List Int) (a1 : Int) (r : List Int) (w : World) (hr0 : Kd.C (Kd.int .i64) w A0 l0.length l0) (hc0 : l0.length ≤ c0) (h : mend_locator.f k l0 a1 = some r) :
  Calls Try.prog 100 #[.slice A0 l0.length c0, .int .i64 a1] w fun e w' => ∃ v0_ : Value, e = .returned (v0_) ∧ Kd.R (Kd.int .u8) 5 w' w.heap.size (fun _ => True) v0_ r ∧ Below w.heap.size w w' := by
 have HR0 := Aside0.mk hr0
 have HC0 := Aside0.mk hc0
 clear hr0 hc0
 have HB := Aside0.mk (Below.refl w.heap.size w)
 have H : (if 1 ≤ (wrap64 ((l0.length : Int) + 1)) then (if (wrap64 ((l0.length : Int) + 1) : Int).toNat ≤ 281474976710656 then ((some (List.replicate 1 0 : List Int)).bind fun y751 => (if 0 < (y751.length : Int) then (mend_locator.l0 k a1 (y751.set (0 : Int).toNat 1) l0 (l0.length : Int) 0) else (none))) else (none)) else (none)) = some r := h
 clear h
 by_cases c3 : 1 ≤ (wrap64 ((l0.length : Int) + 1))
 ·rw [if_pos c3] at H
  have c3b0 := eq_true c3
  have c3b1 : decide (1 ≤ (wrap64 ((l0.length : Int) + 1))) = true := decide_eq_true c3
  by_cases c4 : (wrap64 ((l0.length : Int) + 1) : Int).toNat ≤ 281474976710656
  ·rw [if_pos c4] at H
   have c4b0 := eq_true c4
   have c4b1 : decide ((wrap64 ((l0.length : Int) + 1) : Int).toNat ≤ 281474976710656) = true := decide_eq_true c4
   obtain ⟨y751, hy751⟩ : ∃ y_ : List Int, y_ = (List.replicate 1 0) := ⟨_, rfl⟩
   replace H : (if 0 < (y751.length : Int) then (mend_locator.l0 k a1 (y751.set (0 : Int).toNat 1) l0 (l0.length : Int) 0) else (none)) = some r := by first | (rw [hy751]; exact H) | exact H
   have Ny751 := Aside0.mk hy751
   clear hy751
   by_cases c5 : 0 < (y751.length : Int)
   ·rw [if_pos c5] at H
    have c5b0 : decide (0 < (y751.length : Int)) = true := decide_eq_true c5
    have c5b1 : decide (0 < y751.length) = true := decide_eq_true (by omega)
    clear c5
    obtain ⟨y754, hy754⟩ : ∃ y_ : List Int, y_ = (y751.set (0 : Int).toNat 1) := ⟨_, rfl⟩
    replace H : (mend_locator.l0 k a1 y754 l0 (l0.length : Int) 0) = some r := by first | (rw [hy754]; exact H) | exact H
    have Ny754 := Aside0.mk hy754
    clear hy754
    have H' := Aside0.mk H
    clear H
    go_enter Try.func100, Try.ntmps100
    go_wp2_with (first | ((with_reducible refine gate_dst (N := 13) rfl ?_); refine ArrW.R_makec (Kd.int .u8) _ 5 rfl (N := 13) rfl 29 _ _ rfl 1 (wrap64 ((l0.length : Int) + 1)) rfl rfl Try.underlying29 (.int .u8 0) 1 info5 rfl (by decide) (by omega) 0 (ok := fun _ => True) (okp := fun _ => True) rfl (fun _ hk => hk) trivial (by omega) (of_decide_eq_true (by assumption)) (Nat.le_trans (Nat.mul_le_mul_right _ (of_decide_eq_true (by assumption) : (wrap64 ((l0.length : Int) + 1) : Int).toNat ≤ 281474976710656)) (by omega)) (Below.refl _ _) (Nat.le_refl _) ?_; intro v752 w7 ho8 hb hg_ hnew_; clear hg_ hnew_; (first | rw [← Ny751.out] at ho8 | (simp only [Int.reduceToNat] at ho8; rw [← Ny751.out] at ho8)); have n0_ := Aside0.mk (Kd.R_lower ho8 (below_size HB.out)); have n1_ := Aside0.mk (below_step HB.out hb); clear HB; have HO753 := n0_; have HB := n1_; clear n0_ n1_; clear hb ho8; have p6 : 0 ≤ (0 : Int) := (by omega); have q6 : (0 : Int) < ((y751.length : Int) : Int) := of_decide_eq_true (by assumption); have qi6 : (0 < y751.length) = True := eq_true (by omega); obtain ⟨go6, co6, eo6, gb6, gl6, cl6, HG6⟩ := Kd.R_form HO753.out (by omega); (first | cases eo6 | (injection eo6 with ea_ en_ ec_; (first | subst ea_ | (injection ea_ with ea_; subst ea_)); subst ec_; clear en_)); have GB6 := Aside0.mk gb6; have GG6 := Aside0.mk HG6; clear gb6 gl6 HG6; obtain ⟨hx6_0, hf6_0⟩ := Kd.R_celln 0 HO753.out (0 : Int) p6 q6; (try rw [show ((0 : Int)).toNat = 0 from rfl] at hx6_0); (try simp only [Nat.reduceMul, Nat.zero_mul, Nat.zero_add, Nat.reduceAdd] at hx6_0); (try rw [show ((0 : Int)).toNat = 0 from rfl] at hf6_0); (try simp only [Nat.reduceMul, Nat.zero_mul, Nat.zero_add, Nat.reduceAdd] at hf6_0); replace p6 := eq_true p6; replace q6 := eq_true q6; obtain ⟨hy9_, hz9_⟩ := Kd.R_celln 0 HO753.out (0 : Int) (by omega) (of_decide_eq_true (by assumption)); (try simp only [Int.reduceToNat, Int.toNat_zero, Int.toNat_ofNat, Nat.reduceMul, Nat.zero_mul, Nat.zero_add] at hy9_ hz9_); (try rw [show ((0 : Int)).toNat = 0 from rfl] at hy9_); (try rw [show ((0 : Int)).toNat = 0 from rfl] at hz9_); have HP9 := Kd.R_putg HO753.out (0 : Int) 1) | ((with_reducible refine gate_store (t := 5) (p := 15) rfl ?_); refine store_event (t := 5) (p := 15) (v := ?vo_w10) (w1 := (w7.setCell ⟨go6, (0 : Int).toNat, none⟩ (.int .u8 1))) ?hg ?ho ?hn ?hr ?_; (case ho => rfl); (case hg => rfl); (case hn => rfl); (case hr => first | (go_simp; done) | (go_simp; rfl)); intro w10 hw; have hg : w7.grownBy w10 (some go6) := (by rw [hw]; exact HP9.2); have hp_ : Kd.R (Kd.int .u8) 5 w10 w.heap.size (fun _ => True) (.slice (some ⟨go6, 0, none⟩) y751.length co6) y754 := (by rw [hw, Ny754.out]; exact HP9.1); clear HP9; have n0_ := Aside0.mk (hp_); have n1_ := Aside0.mk ((by rw [hw]; exact below_set HB.out GB6.out : Below w.heap.size w w10)); clear HO753; clear HB; have HO753 := n0_; have HB := n1_; clear n0_ n1_; clear hg hw hp_))
    go_loopg [5, 18] k (fun kq v5 v18 w' => ∃ (x5_1 : List Int) (x18_1 : Int), v18 = .int .i64 x18_1 ∧ Aside0 (mend_locator.l0 kq a1 x5_1 l0 (l0.length : Int) x18_1 = some r) ∧ Aside0 (kq ≤ k) ∧ Aside0 (Kd.R (Kd.int .u8) 5 w' w.heap.size (fun _ => True) v5 x5_1) ∧ Aside0 (Below w.heap.size w w'))
    case atStart => exact ⟨(y754), (0), (by rfl), H', ⟨Nat.le_refl _⟩, ⟨by (with_reducible repeat (first | apply Kd.R_alloc | apply Kd.R_drewN | apply Kd.R_drew)); exact HO753.out⟩, ⟨HB.out⟩⟩
    case round =>
     clear H'
     try clear c3
     try clear c3b0
     try clear c3b1
     try clear c4
     try clear c4b0
     try clear c4b1
     try clear c5
     try clear c5b0
     try clear c5b1
     try clear p6
     try clear q6
     try clear qi6
     try clear hx6_0
     try clear p6
     try clear q6
     obtain ⟨x5_1, x18_1, rfl, HA, HK1, HO_5, HB⟩ := hrel
     cases gk with
     | zero => exact absurd HA.out (by simp [mend_locator.l0])
     | succ k1 =>
      have H := HA.out
      clear HA
      simp only [mend_locator.l0] at H
      by_cases c11 : x18_1 < (l0.length : Int)
      ·rw [if_pos c11] at H
       have c11b0 : decide (x18_1 < (l0.length : Int)) = true := decide_eq_true c11
       clear c11
       by_cases c12 : 0 ≤ x18_1
       ·rw [if_pos c12] at H
        have c12b0 : decide (0 ≤ x18_1) = true := decide_eq_true c12
        clear c12
        by_cases c13 : x18_1 < (l0.length : Int)
        ·rw [if_pos c13] at H
         have c13b0 : decide (x18_1 < (l0.length : Int)) = true := decide_eq_true c13
         clear c13
         replace H := Option.bind_eq_some_iff.mp H
         obtain ⟨t756, A140, H⟩ := H
         replace H : (if x5_1.length < 140737488355328 then ((some (x5_1 ++ [0] : List Int)).bind fun y757 => (mend_locator.l1 k1 a1 y757 t756 (wrap64 ((y757.length : Int) - 1)) l0 (l0.length : Int) x18_1)) else (none)) = some r := H
         have A14 := Aside0.mk A140
         clear A140
         by_cases c15 : x5_1.length < 140737488355328
         ·rw [if_pos c15] at H
          have LMc15 := Aside0.mk c15
          clear c15
          obtain ⟨y757, hy757⟩ : ∃ y_ : List Int, y_ = (x5_1 ++ [0]) := ⟨_, rfl⟩
          replace H : (mend_locator.l1 k1 a1 y757 t756 (wrap64 ((y757.length : Int) - 1)) l0 (l0.length : Int) x18_1) = some r := by first | (rw [hy757]; exact H) | exact H
          have Ny757 := Aside0.mk hy757
          clear hy757
          have H' := Aside0.mk H
          clear H
          have p755 : 0 ≤ (x18_1 : Int) := of_decide_eq_true (by assumption)
          have q755 : x18_1 < (l0.length : Int) := of_decide_eq_true (by assumption)
          obtain ⟨ad755, e755, hx755_0⟩ := Kd.at_int HR0.out x18_1 p755 q755
          cases e755
          replace hx755_0 := (HB.out.cell (World.block_lt_of_cell? w _ hx755_0)).trans hx755_0
          replace p755 := eq_true p755
          replace q755 := eq_true q755
          go_wp2_with (first | ((with_reducible refine gate_callee (f := 106) rfl ?_); refine goesL_ (some 24) rfl rfl Try.func106 (by kernel_rfl) rfl #[.int .i64 (rd l0 x18_1), .int .i64 a1] rfl (by (try simp only [List.map_toArray, List.map_cons, List.map_nil]); first | done | rfl | (simp only [List.length_drop, List.length_take]; rfl)) ?_; (with_reducible refine (mend_unit.calls k1 (rd l0 x18_1) a1 t756 _ A14.out).mono ?_); rintro e w' ⟨rfl, ⟨nd, rfl⟩⟩; refine ⟨_, rfl, ?_⟩) | ((with_reducible refine gate_builtin (b := .append) (xs := #[.tmp 25, .tmp 26]) rfl ?_); at_builtin; refine Kd.R_append (Kd.int .u8) (w0 := w) w.heap.size rfl (.tmp 25) (.tmp 26) 29 5 (.int .u8 0) 1 rfl Try.underlying29 info5 rfl (by decide) (by omega) u5 x5_1 0 [.int .u8 0] (fun _ => True) (fun _ => False) rfl rfl ?aP (fun _ hk => hk.elim) ?aF ?aO ?aB ?aS ?aL ?_; (case aP => exact rfl); (case aB => exact (by repeat (first | (with_reducible first | exact HB.out | apply below_alloc | apply pw_below_drewN | apply below_drew1) | exact HB.out))); (case aF => exact (fun _ _ => trivial)); (case aO => exact (by (with_reducible repeat (first | apply Kd.R_alloc | apply Kd.R_drewN | apply Kd.R_drew)); exact HO_5.out)); (case aS => exact (below_size (by repeat (first | (with_reducible first | exact HB.out | apply below_alloc | apply pw_below_drewN | apply below_drew1) | exact HB.out)))); (case aL => have := LMc15.out; omega); intro v758 w16 ho hb hg hat; rw [← Ny757.out] at ho; have n0_ := Aside0.mk (hb); have n1_ := Aside0.mk (ho); clear HB; clear HO_5; have HB := n0_; have HO759 := n1_; clear n0_ n1_; clear ho hb hg hat; obtain ⟨Ao17, co17, eo17⟩ := Kd.R_slice HO759.out; subst eo17))
          go_loopg [9] k1 (fun kq v9 w' => ∃ (x5_2 : List Int) (x9_2 : Int), v9 = .int .i64 x9_2 ∧ Aside0 (mend_locator.l1 kq a1 x5_2 t756 x9_2 l0 (l0.length : Int) x18_1 = some r) ∧ Aside0 (kq ≤ k1) ∧ Aside0 (Kd.R (Kd.int .u8) 5 w' w.heap.size (fun _ => True) (.slice Ao17 y757.length co17) x5_2) ∧ Aside0 (Below w.heap.size w w'))
          case atStart => exact ⟨(y757), (wrap64 ((y757.length : Int) - 1)), (by rfl), H', ⟨Nat.le_refl _⟩, ⟨by (with_reducible repeat (first | apply Kd.R_alloc | apply Kd.R_drewN | apply Kd.R_drew)); exact HO759.out⟩, ⟨HB.out⟩⟩
          case round =>
           clear H'
           try clear c3
           try clear c3b0
           try clear c3b1
           try clear c4
           try clear c4b0
           try clear c4b1
           try clear c5
           try clear c5b0
           try clear c5b1
           try clear p6
           try clear q6
           try clear qi6
           try clear c11
           try clear c11b0
           try clear c12
           try clear c12b0
           try clear c13
           try clear c13b0
           try clear c15
           try clear hx6_0
           try clear hx755_0
           try clear p6
           try clear p755
           try clear q6
           try clear q755
           obtain ⟨x5_2, x9_2, rfl, HA, HK2, HO_5, HB⟩ := hrel
           have hl5_2 := (Kd.R_reads' HO_5.out).1
           rw [hl5_2] at HO_5
           (try simp only [hl5_2])
           cases gk with
           | zero => exact absurd HA.out (by simp [mend_locator.l1])
           | succ k2 =>
            have H := HA.out
            clear HA
            simp only [mend_locator.l1] at H
            by_cases c18 : x9_2 > 0
            ·rw [if_pos c18] at H
             have c18b0 : decide (0 < x9_2) = true := decide_eq_true c18
             clear c18
             by_cases c19 : 0 ≤ x9_2
             ·rw [if_pos c19] at H
              have c19b0 : decide (0 ≤ x9_2) = true := decide_eq_true c19
              clear c19
              by_cases c20 : x9_2 < (x5_2.length : Int)
              ·rw [if_pos c20] at H
               have c20b0 : decide (x9_2 < (x5_2.length : Int)) = true := decide_eq_true c20
               (try (have c20b0x := c20b0; simp only [hl5_2] at c20b0x))
               clear c20
               obtain ⟨ji21, hji21⟩ : ∃ j_ : Int, (wrap64 (x9_2 - 1)) = j_ := ⟨_, rfl⟩
               replace H : (if 0 ≤ (ji21) then (if (ji21) < (x5_2.length : Int) then ((field_Times.f k2 (rd x5_2 (ji21)) t756).bind fun t762 => (mend_locator.l1 k2 a1 (x5_2.set (x9_2 : Int).toNat (Go.bits .xor .u8 (rd x5_2 x9_2) t762)) t756 ji21 l0 (l0.length : Int) x18_1)) else (none)) else (none)) = some r := by first | (rw [hji21] at H; exact H) | (simp only [hji21] at H ⊢; exact H)
               have hji21w : (IntKind.i64.wrap (x9_2 - 1)) = ji21 := (i64_w _).trans hji21
               by_cases c22 : 0 ≤ (ji21)
               ·rw [if_pos c22] at H
                have c22b0 : decide (0 ≤ (ji21)) = true := decide_eq_true c22
                clear c22
                by_cases c23 : (ji21) < (x5_2.length : Int)
                ·rw [if_pos c23] at H
                 have c23b0 : decide ((ji21) < (x5_2.length : Int)) = true := decide_eq_true c23
                 (try (have c23b0x := c23b0; simp only [hl5_2] at c23b0x))
                 clear c23
                 replace H := Option.bind_eq_some_iff.mp H
                 obtain ⟨t762, A240, H⟩ := H
                 replace H : (mend_locator.l1 k2 a1 (x5_2.set (x9_2 : Int).toNat (Go.bits .xor .u8 (rd x5_2 x9_2) t762)) t756 ji21 l0 (l0.length : Int) x18_1) = some r := H
                 have A24 := Aside0.mk A240
                 clear A240
                 obtain ⟨y763, hy763⟩ : ∃ y_ : List Int, y_ = (x5_2.set (x9_2 : Int).toNat (Go.bits .xor .u8 (rd x5_2 x9_2) t762)) := ⟨_, rfl⟩
                 replace H : (mend_locator.l1 k2 a1 y763 t756 ji21 l0 (l0.length : Int) x18_1) = some r := by first | (rw [hy763]; exact H) | exact H
                 have Ny763 := Aside0.mk hy763
                 clear hy763
                 have H' := Aside0.mk H
                 clear H
                 try go_wp2
                 have n0_ := Aside0.mk (Kd.R_drew HO_5.out)
                 have n1_ := Aside0.mk (below_drew1 HB.out)
                 clear HO_5
                 clear HB
                 have HO_5 := n0_
                 have HB := n1_
                 clear n0_ n1_
                 have p760 : 0 ≤ (x9_2 : Int) := of_decide_eq_true (by assumption)
                 have q760 : x9_2 < (x5_2.length : Int) := of_decide_eq_true (by assumption)
                 obtain ⟨ad760, e760, hx760_0⟩ := Kd.at_int (Kd.R_reads' HO_5.out).2.2 x9_2 p760 q760
                 cases e760
                 replace p760 := eq_true p760
                 replace q760 := eq_true q760
                 have p761 : 0 ≤ ((ji21) : Int) := of_decide_eq_true (by assumption)
                 have q761 : (ji21) < (x5_2.length : Int) := of_decide_eq_true (by assumption)
                 obtain ⟨ad761, e761, hx761_0⟩ := Kd.at_int (Kd.R_reads' HO_5.out).2.2 (ji21) p761 q761
                 obtain rfl : ad760 = ad761 := (by injection e761)
                 replace p761 := eq_true p761
                 replace q761 := eq_true q761
                 refine start_ (n := 14) (S := fun w' => w'.cell? (ad760.add (x9_2).toNat) = some (.int .u8 (rd x5_2 x9_2)) ∧ w'.cell? (ad760.add ((ji21)).toNat) = some (.int .u8 (rd x5_2 (ji21)))) (ds := [13]) #[false, false, false, false, false, false, false, false, false, false, false, false, false, false] (by kernel_rfl) rfl rfl ⟨hx760_0, hx761_0⟩ (fun hHeld => ?_); refine with_tabW mend_locator.tab11 mend_locator.bits11 (fun HT_ HW_ => ?_)
                 generalize wr.drew = w26 at HO_5 HB hx760_0 hx761_0 hHeld ⊢
                 refine pz_ 0 35 ?_ T1m0_ rfl rfl (any_of HT_.out (by kernel_rfl)) ?_ ?_ ?_ ?_; rotate_left; intro w'; go_simp; with_reducible rfl; rotate_left; simp only [nm_]; rfl
                 refine pz_ 1 36 ?_ T1m1_ rfl rfl (any_of HT_.out (by kernel_rfl)) ?_ ?_ ?_ ?_; rotate_left; intro w'; go_simp; with_reducible rfl; rotate_left; simp only [nm_]; rfl
                 refine pz_ 2 37 ?_ T1m2_ rfl rfl (any_of HT_.out (by kernel_rfl)) ?_ ?_ ?_ ?_; rotate_left; intro w'; go_simp; with_reducible rfl; rotate_left; simp only [nm_]; rfl
                 refine pz_ 4 39 ?_ T1m3_ rfl rfl (any_of HT_.out (by kernel_rfl)) ?_ ?_ ?_ ?_; rotate_left; intro w'; go_simp; with_reducible rfl; rotate_left; simp only [nm_]; rfl
                 refine pz_ 5 40 ?_ T1m4_ rfl rfl (any_of HT_.out (by kernel_rfl)) ?_ ?_ ?_ ?_; rotate_left; intro w'; go_simp; with_reducible rfl; rotate_left; simp only [nm_]; rfl
                 refine pz_ 6 41 ?_ T1m5_ rfl rfl (any_of HT_.out (by kernel_rfl)) ?_ ?_ ?_ ?_; rotate_left; intro w'; go_simp; with_reducible rfl; rotate_left; simp only [nm_]; rfl
                 refine pz_ 7 42 ?_ T1m6_ rfl rfl (any_of HT_.out (by kernel_rfl)) ?_ ?_ ?_ ?_; rotate_left; intro w'; go_simp; with_reducible rfl; rotate_left; simp only [nm_]; rfl
                 refine pz_ 9 44 ?_ T1m7_ rfl rfl (any_of HT_.out (by kernel_rfl)) ?_ ?_ ?_ ?_; rotate_left; intro w'; go_simp; with_reducible rfl; rotate_left; simp only [nm_]; rfl
                 refine tz_ 3 38 ?_ T1m8_ rfl rfl (take_ofW HT_.out HW_.out (by kernel_rfl)) ?_ hHeld ?_ ?_ ?_; rotate_left; rintro w' ⟨s0, s1⟩; go_simp; with_reducible rfl; rotate_left; simp only [nm_]; rfl
                 refine tz_ 8 43 ?_ T1m9_ rfl rfl (take_ofW HT_.out HW_.out (by kernel_rfl)) ?_ hHeld ?_ ?_ ?_; rotate_left; rintro w' ⟨s0, s1⟩; go_simp; with_reducible rfl; rotate_left; simp only [nm_]; rfl
                 refine one_ (i := 10) (N := some 45) #[true, true, true, true, true, true, true, true, true, true, true, false, false, false] rfl rfl (one_of HT_.out (by kernel_rfl)) (by decide) (fun K hK => ?_)
                 refine goes_ Try.func64 (by kernel_rfl) rfl #[.int .u8 (rd x5_2 (ji21)), .int .u8 t756] (by rfl) rfl rfl (by (try simp only [List.map_toArray, List.map_cons, List.map_nil]); first | done | (simp only [hji21]; rfl) | rfl | (simp only [List.length_drop, List.length_take]; rfl)) ?_
                 with_reducible refine (field_Times.calls k2 (rd x5_2 (ji21)) t756 t762 _ A24.out).mono ?_
                 rintro e w' ⟨rfl, ⟨nd, rfl⟩⟩
                 refine ⟨_, rfl, ?_⟩
                 have p25 : 0 ≤ (x9_2 : Int) := of_decide_eq_true (by assumption)
                 have q25 : (x9_2 : Int) < ((x5_2.length : Int) : Int) := of_decide_eq_true (by assumption)
                 obtain ⟨go25, co25, eo25, gb25, gl25, cl25, HG25⟩ := Kd.R_form HO_5.out (by omega)
                 (first | cases eo25 | (injection eo25 with ea_ en_ ec_; (first | subst ea_ | (injection ea_ with ea_; subst ea_)); subst ec_; clear en_))
                 have GB25 := Aside0.mk gb25
                 have GG25 := Aside0.mk HG25
                 clear gb25 gl25 HG25
                 (first | simp only [add_plain] at hx760_0 | skip)
                 (first | simp only [add_plain] at hx761_0 | skip)
                 obtain ⟨hx25_0, hf25_0⟩ := Kd.R_celln 0 HO_5.out (x9_2 : Int) p25 q25
                 replace p25 := eq_true p25
                 replace q25 := eq_true q25
                 have HP27 := Kd.R_putn HO_5.out (x9_2 : Int) (Go.bits .xor .u8 (rd x5_2 x9_2) t762)
                 rw [← Ny763.out] at HP27
                 have HQ27 := Aside0.mk HP27
                 clear HP27
                 refine hK.out _ _ ⟨hHeld.1, hHeld.2⟩ (fun hHeld => ?_)
                 clear hK K
                 refine norm_ (a' := ?_) ?_ ?_
                 rotate_left
                 ·show Act.put _ (some 45) _ = _
                  simp only [nm_]
                  rfl
                 refine pz_ 11 46 ?_ T1m10_ rfl rfl (any_of HT_.out (by kernel_rfl)) ?_ ?_ ?_ ?_; rotate_left; intro w'; go_simp; with_reducible rfl; rotate_left; simp only [nm_]; rfl
                 refine pz_ 12 47 ?_ T1m11_ rfl rfl (any_of HT_.out (by kernel_rfl)) ?_ ?_ ?_ ?_; rotate_left; intro w'; go_simp; with_reducible rfl; rotate_left; simp only [nm_]; rfl
                 refine last_ (i := 13) (N := none) #[true, true, true, true, true, true, true, true, true, true, true, true, true, true] rfl rfl (one_of HT_.out (by kernel_rfl)) (by decide) (fun K hK => ?_)
                 refine skip_ (w1 := ?_) (by rfl) rfl ?_ ?_
                 rotate_left
                 ·go_simp
                  rfl
                 refine hK.out _ _ ?_
                 clear hK K
                 refine done_ (done_of HT_.out (by kernel_rfl)) ?_
                 try go_wp2
                 (try simp only [← hl5_2])
                 first | go_roundg k2 | (simp only [add_plain] at *; go_roundg k2)
                 case measure => have := HK1.out; have := HK2.out; omega
                 case rel => exact ⟨(y763), (ji21), (by first | rfl | (simp; done) | (simp only [← hji21] <;> (first | rfl | simp)) | (simp [*]; done)), H', ⟨by have := HK1.out; have := HK2.out; omega⟩, ⟨by (try simp only [hl5_2]); (with_reducible repeat (first | apply Kd.R_alloc | apply Kd.R_drewN | apply Kd.R_drew)); exact HQ27.out⟩, ⟨by repeat (first | (with_reducible first | exact HB.out | apply below_alloc | apply pw_below_drewN | apply below_drew1 | refine below_set ?_ GB25.out) | exact HB.out)⟩⟩
                ·rw [if_neg c23] at H
                 exact absurd H (by simp)
               ·rw [if_neg c22] at H
                exact absurd H (by simp)
              ·rw [if_neg c20] at H
               exact absurd H (by simp)
             ·rw [if_neg c19] at H
              exact absurd H (by simp)
            ·rw [if_neg c18] at H
             have c18b0 : decide (0 < x9_2) = false := decide_eq_false c18
             clear c18
             have H' := Aside0.mk H
             clear H
             go_wp2
             (try simp only [← hl5_2])
             first | go_roundg k2 | (simp only [add_plain] at *; go_roundg k2)
             case measure => have := HK1.out; have := HK2.out; omega
             case rel => exact ⟨(x5_2), (wrap64 (x18_1 + 1)), (by rfl), H', ⟨by have := HK1.out; have := HK2.out; omega⟩, ⟨by (try simp only [hl5_2]); (with_reducible repeat (first | apply Kd.R_alloc | apply Kd.R_drewN | apply Kd.R_drew)); exact HO_5.out⟩, ⟨HB.out⟩⟩
         ·rw [if_neg c15] at H
          exact absurd H (by simp)
        ·rw [if_neg c13] at H
         exact absurd H (by simp)
       ·rw [if_neg c12] at H
        exact absurd H (by simp)
      ·rw [if_neg c11] at H
       have c11b0 : decide (x18_1 < (l0.length : Int)) = false := decide_eq_false c11
       clear c11
       obtain rfl := Option.some.inj H
       go_wp2
       go_ret
       exact ⟨_, by rfl, by (with_reducible repeat (first | apply Kd.R_alloc | apply Kd.R_drewN | apply Kd.R_drew)); exact HO_5.out, HB.out⟩
   ·rw [if_neg c5] at H
    exact absurd H (by simp)
  ·rw [if_neg c4] at H
   exact absurd H (by simp)
 ·rw [if_neg c3] at H
  exact absurd H (by simp)
set_option maxHeartbeats 8000000 in
set_option maxRecDepth 100000 in
theorem field_Over.calls (k : Nat) (a0 : Int) (a1 : Int) (r1 : Int) (r2 : Int) (w : World) (h : field_Over.f k a0 a1 = some (r1, r2)) :
  Calls Try.prog 107 #[.int .u8 a0, .int .u8 a1] w fun e w' => e = .returned (.tuple #[.int .u8 r1, .int .i64 r2]) ∧ Drawn0 w w' := by
 have H : (if a1 = 0 then (some (0, 6)) else ((field_raised.f k a1 254).bind fun t764 => ((field_Times.f k a0 t764).bind fun t765 => (some (t765, 0))))) = some (r1, r2) := h
 clear h
 by_cases c3 : a1 = 0
 ·rw [if_pos c3] at H
  have c3b0 : (a1 == 0) = true := beq_iff_eq.mpr c3
  have c3b1 : (a1 != 0) = false := bne_eq_false_iff_eq.mpr c3
  clear c3
  simp only [Option.some.injEq, Prod.mk.injEq] at H
  obtain ⟨rfl, rfl⟩ := H
  go_enter Try.func107, Try.ntmps107
  go_wp2
  go_ret2
  exact ⟨by rfl, by repeat (first | exact Drawn0.refl _ | apply Drawn0.step)⟩
 ·rw [if_neg c3] at H
  have c3b0 : (a1 == 0) = false := beq_eq_false_iff_ne.mpr c3
  have c3b1 : (a1 != 0) = true := bne_iff_ne.mpr c3
  replace H := Option.bind_eq_some_iff.mp H
  obtain ⟨t764, A40, H⟩ := H
  replace H : ((field_Times.f k a0 t764).bind fun t765 => (some (t765, 0))) = some (r1, r2) := H
  have A4 := Aside0.mk A40
  clear A40
  replace H := Option.bind_eq_some_iff.mp H
  obtain ⟨t765, A50, H⟩ := H
  replace H : (some (t765, 0)) = some (r1, r2) := H
  have A5 := Aside0.mk A50
  clear A50
  simp only [Option.some.injEq, Prod.mk.injEq] at H
  obtain ⟨rfl, rfl⟩ := H
  go_enter Try.func107, Try.ntmps107
  go_wp2_with (first | ((with_reducible refine gate_callee (f := 83) rfl ?_); refine goesL_ (some 10) rfl rfl Try.func83 (by kernel_rfl) rfl #[.int .u8 a1, .int .i64 254] rfl (by (try simp only [List.map_toArray, List.map_cons, List.map_nil]); first | done | rfl | (simp only [List.length_drop, List.length_take]; rfl)) ?_; (with_reducible refine (field_raised.calls k a1 254 t764 _ A4.out).mono ?_); rintro e w' ⟨rfl, ⟨nd, rfl⟩⟩; refine ⟨_, rfl, ?_⟩) | ((with_reducible refine gate_callee (f := 64) rfl ?_); refine goesL_ (some 11) rfl rfl Try.func64 (by kernel_rfl) rfl #[.int .u8 a0, .int .u8 t764] rfl (by (try simp only [List.map_toArray, List.map_cons, List.map_nil]); first | done | rfl | (simp only [List.length_drop, List.length_take]; rfl)) ?_; (with_reducible refine (field_Times.calls k a0 t764 t765 _ A5.out).mono ?_); rintro e w' ⟨rfl, ⟨nd, rfl⟩⟩; refine ⟨_, rfl, ?_⟩))
  go_ret2
  exact ⟨by rfl, by repeat (first | exact Drawn0.refl _ | apply Drawn0.step)⟩
end Go.Proofs.Ytncoakokdajibaa.Q
