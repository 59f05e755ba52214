-- Printed by myprint.py (ours) over the kit's printer, out of the translation.
import Derived.Test.YtmdeldiocaofkaaFieldPolynomialsK0
import Derived.Test.YtmdeldiocaofkaaFieldPolynomialsF1
import Derived.Test.YtmdeldiocaofkaaFieldPolynomialsQ0
namespace Go.Proofs.Ytmdeldiocaofkaa.Q
open Go.RowKit Go.Proofs.YtmdeldiocaofkaaW.PrintWords Go.Proofs.YtmdeldiocaofkaaW.PrintLast Go.Proofs.YtmdeldiocaofkaaW.PrintMore
attribute [local go_sem] ArrW.ptrOf_slice max2_int min2_int max_two min_two max_three min_three max_four min_four   -- for this text's walks alone
set_option linter.unusedVariables false
set_option linter.unusedSimpArgs false

/-! ### foghornlaw18_kept: function 62 -/
--WALK
theorem foghornlaw18_kept.len {k : Nat} {l0 l1 : List Int} (h : foghornlaw18_kept.f k l0 l1 = some true) : l1.length = l0.length := by
 unfold foghornlaw18_kept.f foghornref18_Same.f at h
 by_cases e : (l0.length : Int) = (l1.length : Int)
 ·omega
 ·rw [if_neg e] at h
  simp at h
set_option maxHeartbeats 8000000 in
set_option maxRecDepth 100000 in
theorem foghornlaw18_kept.calls (k : Nat) (A0 : Option Addr) (c0 : Nat) (l0 : List Int) (A1 : Option Addr) (c1 : Nat) (l1 : List Int) (r : Bool) (w : World) (hr0 : Kd.C (Kd.int .u8) w A0 l0.length l0) (hc0 : l0.length ≤ c0) (hr1 : Kd.C (Kd.int .u8) w A1 l1.length l1) (hc1 : l1.length ≤ c1) (h : foghornlaw18_kept.f k l0 l1 = some r)
  (hm : ∃ ad c, Value.slice A0 l0.length c0 = .slice (some ad) l0.length c ∧ l0.length + 1 ≤ c ∧ l0.length < 140737488355328 ∧ w.cell? (ad.add l0.length) = some (.int .u8 77)) :
  Calls Try.prog 62 #[.slice A0 l0.length c0, .slice A1 l1.length c1] w fun e w' => e = .returned (.bool r) ∧ Drawn0 w w' := by
 obtain ⟨ad, c_, hA_, hc_, hl_, hx0⟩ := hm
 injection hA_ with e1 e2 e3
 subst e1
 subst e3
 have HR0 := Aside0.mk hr0
 have HC0 := Aside0.mk hc0
 have HR1 := Aside0.mk hr1
 have HC1 := Aside0.mk hc1
 have HXC := Aside0.mk hc_
 have A3 := Aside0.mk (show foghornref18_Same.f k l0 l1 = some r from h)
 clear hr0 hc0 hr1 hc1 hc_
 cases r with
 | false =>
  clear h
  go_enter Try.func62, Try.ntmps62
  go_wp2_with (first | ((with_reducible refine gate_callee (f := 35) rfl ?_); refine goesL_ (some 7) rfl rfl Try.func35 (by kernel_rfl) rfl #[.slice (some ad) l0.length c0, .slice A1 l1.length c1] rfl (by (try simp only [List.map_toArray, List.map_cons, List.map_nil]); first | done | rfl) ?_; (with_reducible refine (foghornref18_Same.calls k _ _ l0 _ _ l1 false _ ?side1 ?side2 ?side3 ?side4 A3.out).mono ?_); (case side1 => repeat (first | exact HR0.out | (with_reducible refine Kd.C_alloc ?_ _) | (with_reducible refine Kd.C_drewN ?_ _) | (with_reducible refine Kd.C_drew ?_))); (case side2 => exact HC0.out); (case side3 => repeat (first | exact HR1.out | (with_reducible refine Kd.C_alloc ?_ _) | (with_reducible refine Kd.C_drewN ?_ _) | (with_reducible refine Kd.C_drew ?_))); (case side4 => exact HC1.out); rintro e w' ⟨rfl, ⟨nd, rfl⟩⟩; refine ⟨_, rfl, ?_⟩))
  go_ret
  exact ⟨by first | rfl | (simp; done) | (simp [*]; done), by repeat (first | exact Drawn0.refl _ | apply Drawn0.step)⟩
 | true =>
  have hl := foghornlaw18_kept.len h
  clear h
  have hw : (IntKind.i64.wrap ((l0.length : Int) + 1)) = (l0.length : Int) + 1 := (i64_w _).trans (by unfold wrap64; omega)
  have hw2 : wrap64 ((l0.length : Int) + 1) = (l0.length : Int) + 1 := by unfold wrap64; omega
  have p1 : (0 ≤ (l0.length : Int) + 1) = True := eq_true (by omega)
  have p2 : ((l0.length : Int) + 1 ≤ (c0 : Int)) = True := eq_true (by have := HXC.out; omega)
  go_enter Try.func62, Try.ntmps62
  go_wp2_with (first | ((with_reducible refine gate_callee (f := 35) rfl ?_); refine goesL_ (some 7) rfl rfl Try.func35 (by kernel_rfl) rfl #[.slice (some ad) l0.length c0, .slice A1 l1.length c1] rfl (by (try simp only [List.map_toArray, List.map_cons, List.map_nil]); first | done | rfl) ?_; (with_reducible refine (foghornref18_Same.calls k _ _ l0 _ _ l1 true _ ?side1 ?side2 ?side3 ?side4 A3.out).mono ?_); (case side1 => repeat (first | exact HR0.out | (with_reducible refine Kd.C_alloc ?_ _) | (with_reducible refine Kd.C_drewN ?_ _) | (with_reducible refine Kd.C_drew ?_))); (case side2 => exact HC0.out); (case side3 => repeat (first | exact HR1.out | (with_reducible refine Kd.C_alloc ?_ _) | (with_reducible refine Kd.C_drewN ?_ _) | (with_reducible refine Kd.C_drew ?_))); (case side4 => exact HC1.out); rintro e w' ⟨rfl, ⟨nd, rfl⟩⟩; refine ⟨_, rfl, ?_⟩))
  go_ret
  exact ⟨by first | rfl | (simp; done) | (simp [*]; done), by repeat (first | exact Drawn0.refl _ | apply Drawn0.step)⟩

/-! ### foghornlaw18_lent: function 60 -/
--WALK
/-- A mark behind a list: the cell behind its last one, in the same block. -/
def foghornlaw18_lent.MK (w : World) (v : Value) (l : List Int) : Prop := ∃ ad c, v = .slice (some ad) l.length c ∧ l.length + 1 ≤ c ∧ l.length < 140737488355328 ∧ w.cell? (ad.add l.length) = some (.int .u8 77)
theorem foghornlaw18_lent.MK.below {w w' : World} {v : Value} {l : List Int} (h : foghornlaw18_lent.MK w v l) (hb : Below w.heap.size w w') : foghornlaw18_lent.MK w' v l :=
 let ⟨ad, c, e, h1, h2, hx⟩ := h; ⟨ad, c, e, h1, h2, (hb.cell (World.block_lt_of_cell? w _ hx)).trans hx⟩
theorem foghornlaw18_lent.MK.alloc {w : World} {v : Value} {l : List Int} (h : foghornlaw18_lent.MK w v l) (o : Obj) : foghornlaw18_lent.MK (w.alloc o) v l := h.below (below_alloc (Below.refl _ _) o)
theorem foghornlaw18_lent.MK.drewN {w : World} {v : Value} {l : List Int} (h : foghornlaw18_lent.MK w v l) (m : Nat) : foghornlaw18_lent.MK (w.drewN m) v l := h.below (pw_below_drewN (Below.refl _ _) m)
theorem foghornlaw18_lent.MK.drew {w : World} {v : Value} {l : List Int} (h : foghornlaw18_lent.MK w v l) : foghornlaw18_lent.MK w.drew v l := h.below (below_drew (Below.refl _ _))
theorem foghornlaw18_lent.MK.grown {w w' : World} {v : Value} {l : List Int} {row : Option Nat} (h : foghornlaw18_lent.MK w v l) (hg : w.grownBy w' row) (hne : ∀ ad n c, v = .slice (some ad) n c → some ad.block ≠ row) : foghornlaw18_lent.MK w' v l := by
 obtain ⟨ad, c, e, h1, h2, hx⟩ := h
 have hbl : (ad.add l.length).block = ad.block := by unfold Addr.add; split <;> rfl
 have hlt := World.block_lt_of_cell? w _ hx
 have hb := hg.block (ad.add l.length).block hlt (by rw [hbl]; exact hne ad _ c e)
 refine ⟨ad, c, e, h1, h2, ?_⟩
 rw [← hx]
 simp only [World.cell?, hb]
theorem foghornlaw18_lent.MK.of {w : World} {base : Nat} {ok : Nat → Prop} {A : Option Addr} {c : Nat} {y r : List Int} {e : Nat} (h : Kd.R (Kd.int .u8) e w base ok (.slice A y.length c) y) (hy : y = r ++ [77]) (hl : r.length < 140737488355328) : foghornlaw18_lent.MK w (.slice A r.length c) r := by
 have h1 := (Kd.R_reads' h).2.1
 have h2 := (Kd.R_reads' h).2.2
 have hyl : y.length = r.length + 1 := by rw [hy]; simp
 obtain ⟨ad, eA, hx⟩ := Kd.at_int h2 (r.length : Int) (by omega) (by omega)
 refine ⟨ad, c, by rw [eA], by omega, hl, ?_⟩
 have e77 : rd y (r.length : Int) = 77 := by
  rw [hy]
  show List.getD _ _ _ = _
  rw [List.getD_eq_getElem?_getD, Int.toNat_natCast, List.getElem?_append_right (Nat.le_refl _), Nat.sub_self]
  rfl
 rw [e77] at hx
 simpa using hx
set_option maxHeartbeats 8000000 in
set_option maxRecDepth 100000 in
theorem foghornlaw18_lent.callsM (A0 : Option Addr) (c0 : Nat) (l0 : List Int) (r : List Int) (w : World) (hr0 : Kd.C (Kd.int .u8) w A0 l0.length l0) (hc0 : l0.length ≤ c0) (h : foghornlaw18_lent.f l0 = some r) :
  Calls Try.prog 60 #[.slice A0 l0.length c0] w fun e w' => ∃ v0_ : Value, e = .returned (v0_) ∧ Kd.R (Kd.int .u8) 5 w' w.heap.size (fun _ => True) v0_ r ∧ foghornlaw18_lent.MK w' v0_ r ∧ Below w.heap.size w w' := by
 have HR0 := Aside0.mk hr0
 have HC0 := Aside0.mk hc0
 clear hr0 hc0
 have HB := Aside0.mk (Below.refl w.heap.size w)
 have H : ((some (([] : List Int) : List Int)).bind fun y733 => (if y733.length + l0.length < 140737488355328 then ((some (y733 ++ l0 : List Int)).bind fun y736 => (if y736.length < 140737488355328 then ((some (y736 ++ [77] : List Int)).bind fun y739 => (if 0 ≤ (l0.length : Int) then (if (l0.length : Int) ≤ (y739.length : Int) then (some (y739.take ((l0.length : Int) : Int).toNat)) else (none)) else (none))) else (none))) else (none))) = some r := h
 clear h
 obtain ⟨y733, hy733⟩ : ∃ y_ : List Int, y_ = (([] : List Int)) := ⟨_, rfl⟩
 replace H : (if y733.length + l0.length < 140737488355328 then ((some (y733 ++ l0 : List Int)).bind fun y736 => (if y736.length < 140737488355328 then ((some (y736 ++ [77] : List Int)).bind fun y739 => (if 0 ≤ (l0.length : Int) then (if (l0.length : Int) ≤ (y739.length : Int) then (some (y739.take ((l0.length : Int) : Int).toNat)) else (none)) else (none))) else (none))) else (none)) = some r := by first | (rw [hy733]; with_reducible exact H) | (have H2_ := (Option.bind_some _ _).symm.trans H; rw [hy733]; with_reducible exact H2_) | (have H2_ := (Option.bind_some _ _).symm.trans H; with_reducible exact H2_) | with_reducible exact H | (rw [hy733]; exact H) | exact H
 have Ny733 := Aside0.mk hy733
 clear hy733
 by_cases c2 : y733.length + l0.length < 140737488355328
 ·rw [if_pos c2] at H
  have LMc2 := Aside0.mk c2
  clear c2
  obtain ⟨y736, hy736⟩ : ∃ y_ : List Int, y_ = (y733 ++ l0) := ⟨_, rfl⟩
  replace H : (if y736.length < 140737488355328 then ((some (y736 ++ [77] : List Int)).bind fun y739 => (if 0 ≤ (l0.length : Int) then (if (l0.length : Int) ≤ (y739.length : Int) then (some (y739.take ((l0.length : Int) : Int).toNat)) else (none)) else (none))) else (none)) = some r := by first | (rw [hy736]; with_reducible exact H) | (have H2_ := (Option.bind_some _ _).symm.trans H; rw [hy736]; with_reducible exact H2_) | (have H2_ := (Option.bind_some _ _).symm.trans H; with_reducible exact H2_) | with_reducible exact H | (rw [hy736]; exact H) | exact H
  have Ny736 := Aside0.mk hy736
  clear hy736
  by_cases c3 : y736.length < 140737488355328
  ·rw [if_pos c3] at H
   have LMc3 := Aside0.mk c3
   clear c3
   obtain ⟨y739, hy739⟩ : ∃ y_ : List Int, y_ = (y736 ++ [77]) := ⟨_, rfl⟩
   replace H : (if 0 ≤ (l0.length : Int) then (if (l0.length : Int) ≤ (y739.length : Int) then (some (y739.take ((l0.length : Int) : Int).toNat)) else (none)) else (none)) = some r := by first | (rw [hy739]; with_reducible exact H) | (have H2_ := (Option.bind_some _ _).symm.trans H; rw [hy739]; with_reducible exact H2_) | (have H2_ := (Option.bind_some _ _).symm.trans H; with_reducible exact H2_) | with_reducible exact H | (rw [hy739]; exact H) | exact H
   have Ny739 := Aside0.mk hy739
   clear hy739
   by_cases c4 : 0 ≤ (l0.length : Int)
   ·rw [if_pos c4] at H
    have c4b0 := eq_true c4
    have c4b1 : decide (0 ≤ (l0.length : Int)) = true := decide_eq_true c4
    clear c4
    by_cases c5 : (l0.length : Int) ≤ (y739.length : Int)
    ·rw [if_pos c5] at H
     have c5b0 := eq_true c5
     have c5b1 : decide ((l0.length : Int) ≤ (y739.length : Int)) = true := decide_eq_true c5
     clear c5
     obtain ⟨y742, hy742⟩ : ∃ y_ : List Int, y_ = (y739.take ((l0.length : Int) : Int).toNat) := ⟨_, rfl⟩
     replace H : (some y742) = some r := by first | (rw [hy742]; with_reducible exact H) | (have H2_ := (Option.bind_some _ _).symm.trans H; rw [hy742]; with_reducible exact H2_) | (have H2_ := (Option.bind_some _ _).symm.trans H; with_reducible exact H2_) | with_reducible exact H | (rw [hy742]; exact H) | exact H
     have Ny742 := Aside0.mk hy742
     clear hy742
     obtain rfl := Option.some.inj H
     go_enter Try.func60, Try.ntmps60
     go_wp2_with (first | ((with_reducible refine gate_dst (N := 3) rfl ?_); refine Kd.R_lit (Kd.int .u8) _ 5 ?hg (N := 3) ?hd (xs := ([] : List Int)) (inner := []) (ok := fun _ => True) (okp := fun _ => True) ?hr ?hp (fun _ hk => hk) trivial (Below.refl _ _) (Nat.le_refl _) (by simp) ?_; (case hd => rfl); (case hg => rfl); (case hr => first | (go_simp; done) | (go_simp; rfl)); (case hp => exact (Reps.none _ _)); intro v734 w6 ho7 hb hg_ hnew_; clear hg_ hnew_; (first | rw [← Ny733.out] at ho7 | (simp only [Int.reduceToNat] at ho7; rw [← Ny733.out] at ho7)); have n0_ := Aside0.mk (Kd.R_lower ho7 (below_size (by repeat (first | (with_reducible first | exact HB.out | apply below_alloc | apply pw_below_drewN | apply below_drew1) | exact HB.out)))); have n1_ := Aside0.mk (below_step (by repeat (first | (with_reducible first | exact HB.out | apply below_alloc | apply pw_below_drewN | apply below_drew1) | exact HB.out)) hb); clear HB; have HO735 := n0_; have HB := n1_; clear n0_ n1_; clear hb ho7) | ((with_reducible refine gate_builtin (b := .append) (xs := #[.tmp 3, .tmp 4]) rfl ?_); at_builtin; refine Kd.R_append_rows (Kd.int .u8) (w0 := w) w.heap.size rfl (.tmp 3) (.tmp 4) 22 5 (.int .u8 0) 1 rfl Try.underlying22 info5 rfl (by decide) (by omega) v734 y733 l0 _ _ _ (fun _ => True) (fun _ => False) rfl rfl ?aO ?aR (fun _ _ h => h) (fun _ h => h.elim) ?aF ?aB ?aS ?aL ?_; (case aR => repeat (first | exact (Kd.C_below HR0.out HB.out) | (with_reducible refine Kd.C_alloc ?_ _) | (with_reducible refine Kd.C_drewN ?_ _) | (with_reducible refine Kd.C_drew ?_))); (case aB => exact (by repeat (first | (with_reducible first | exact HB.out | apply below_alloc | apply pw_below_drewN | apply below_drew1) | exact HB.out))); (case aF => exact (fun _ _ => trivial)); (case aO => exact (by (with_reducible repeat (first | apply Kd.R_alloc | apply Kd.R_drewN | apply Kd.R_drew)); exact HO735.out)); (case aS => exact (below_size (by repeat (first | (with_reducible first | exact HB.out | apply below_alloc | apply pw_below_drewN | apply below_drew1) | exact HB.out)))); (case aL => have := LMc2.out; omega); intro v737 w8 ho hb hg hat; rw [← Ny736.out] at ho; have n0_ := Aside0.mk (hb); have n1_ := Aside0.mk (ho); clear HB; clear HO735; have HB := n0_; have HO738 := n1_; clear n0_ n1_; clear ho hb hg hat) | ((with_reducible refine gate_builtin (b := .append) (xs := #[.tmp 5, .tmp 6]) rfl ?_); at_builtin; refine Kd.R_append (Kd.int .u8) (w0 := w) w.heap.size rfl (.tmp 5) (.tmp 6) 22 5 (.int .u8 0) 1 rfl Try.underlying22 info5 rfl (by decide) (by omega) v737 y736 77 [.int .u8 77] (fun _ => True) (fun _ => False) rfl rfl ?aP (fun _ hk => hk.elim) ?aF ?aO ?aB ?aS ?aL ?_; (case aP => exact rfl); (case aB => exact (by repeat (first | (with_reducible first | exact HB.out | apply below_alloc | apply pw_below_drewN | apply below_drew1) | exact HB.out))); (case aF => exact (fun _ _ => trivial)); (case aO => exact (by (with_reducible repeat (first | apply Kd.R_alloc | apply Kd.R_drewN | apply Kd.R_drew)); exact HO738.out)); (case aS => exact (below_size (by repeat (first | (with_reducible first | exact HB.out | apply below_alloc | apply pw_below_drewN | apply below_drew1) | exact HB.out)))); (case aL => have := LMc3.out; omega); intro v740 w9 ho hb hg hat; rw [← Ny739.out] at ho; have n0_ := Aside0.mk (hb); have n1_ := Aside0.mk (ho); clear HB; clear HO738; have HB := n0_; have HO741 := n1_; clear n0_ n1_; clear ho hb hg hat; obtain ⟨Ao10, co10, eo10⟩ := Kd.R_slice HO741.out; subst eo10; have q11 : ((l0.length : Int) : Int) ≤ ((y739.length : Int) : Int) := of_decide_eq_true (by first | (with_reducible assumption) | assumption); obtain ⟨i011, hi011, _, hsz11, _⟩ := info_parts info5; have hcut11 := cut_to (P := Try.prog) 22 5 .i64 Try.underlying22 hi011 Ao10 y739.length co10 (l0.length : Int) (of_decide_eq_true (by first | (with_reducible assumption) | assumption)) q11 (Kd.R_reads' HO741.out).2.1; have hr11 := Kd.R_take (m := ((l0.length : Int) : Int).toNat) HO741.out (by omega); have hy11 : y742.length = ((l0.length : Int) : Int).toNat := (by rw [Ny742.out, List.length_take]; omega); rw [← Ny742.out] at hr11; rw [← hy11] at hr11 hcut11; clear hy11 hi011 hsz11; have HO744 := Aside0.mk hr11; clear hr11; replace q11 := eq_true q11))
     go_ret
     exact ⟨_, by first | rfl | (simp [errW_none, errW_some] <;> rfl) | (simp [*, errW_none, errW_some] <;> rfl), by (with_reducible repeat (first | apply Kd.R_alloc | apply Kd.R_drewN | apply Kd.R_drew)); exact HO744.out, by (with_reducible repeat (first | apply foghornlaw18_lent.MK.alloc | apply foghornlaw18_lent.MK.drewN | apply foghornlaw18_lent.MK.drew)); exact foghornlaw18_lent.MK.of HO741.out (by rw [Ny742.out, Ny739.out, Ny736.out, Ny733.out]; simp) (by have h_ := LMc3.out; rw [Ny742.out, Ny739.out, Ny736.out, Ny733.out]; rw [Ny736.out, Ny733.out] at h_; simpa using h_), by repeat (first | (with_reducible first | exact HB.out | apply below_alloc | apply pw_below_drewN | apply below_drew1) | exact HB.out)⟩
    ·rw [if_neg c5] at H
     exact absurd H (by simp)
   ·rw [if_neg c4] at H
    exact absurd H (by simp)
  ·rw [if_neg c3] at H
   exact absurd H (by simp)
 ·rw [if_neg c2] at H
  exact absurd H (by simp)

end Go.Proofs.Ytmdeldiocaofkaa.Q
