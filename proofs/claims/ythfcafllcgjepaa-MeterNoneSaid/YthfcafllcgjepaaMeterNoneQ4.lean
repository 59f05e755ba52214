-- Printed by myprint.py (ours) over the kit's printer, out of the translation.
import Derived.Test.YthfcafllcgjepaaMeterNoneK0
import Derived.Test.YthfcafllcgjepaaMeterNoneF0
import Derived.Test.YthfcafllcgjepaaMeterNoneQ0
import Derived.Test.YthfcafllcgjepaaMeterNoneQ1
import Derived.Test.YthfcafllcgjepaaMeterNoneQ2
import Derived.Test.YthfcafllcgjepaaMeterNoneQ3
namespace Go.Proofs.Ythfcafllcgjepaa.Q
open Go.RowKit Go.Proofs.YthfcafllcgjepaaW.PrintWords Go.Proofs.YthfcafllcgjepaaW.PrintLast Go.Proofs.YthfcafllcgjepaaW.PrintMore
attribute [local go_sem] ArrW.ptrOf_slice unary_neg_float unary_neg_complex run_store_float run_store_complex max2_int min2_int max_two min_two max_three min_three max_four min_four   -- for this text's walks alone
set_option linter.unusedVariables false
set_option linter.unusedSimpArgs false

/-! ### foghornlaw30_MeterCounts: function 6 -/
--WALK
set_option maxHeartbeats 8000000 in
set_option maxRecDepth 100000 in
theorem mtr_more.calls (g j : Nat) (x d : Int) (w : World) (hc : w.cell? ⟨g, j, none⟩ = some (.int .i64 x)) (hf : w.frozen? ⟨g, j, none⟩ = false) :
  Calls Try.prog 111 #[.pointer (some ⟨g, j, none⟩), .int .i64 d] w fun e w' => e = .returned (.tuple #[]) ∧ w' = w.drew.setCell ⟨g, j, none⟩ (.int .i64 (mtr_more x d)) := by
 go_enter Try.func111, Try.ntmps111
 go_still_tail 11, (by kernel_rfl)
 change wpList _ _ _ _ _ w.drew
 have hc' : w.drew.cell? ⟨g, j, none⟩ = some (.int .i64 x) := hc
 have hf' : w.drew.frozen? ⟨g, j, none⟩ = false := hf
 clear hc hf
 generalize w.drew = w2 at *
 by_cases hm : wrap64 (9223372036854775807 - x) < d
 ·have h1 : (wrap64 (9223372036854775807 - x) < d) = True := eq_true hm
  have h2 : (IntKind.i64.wrap (9223372036854775807 - x) < d) = True := eq_true (by rw [i64_w]; exact hm)
  rw [show mtr_more x d = wrap64 (x + wrap64 (9223372036854775807 - x)) by unfold mtr_more; rw [if_pos hm]]
  clear hm
  go_wp2
  all_goals go_end0
  all_goals exact ⟨rfl, (by first | rfl | (simp only [i64_w]))⟩
 ·have h1 : (wrap64 (9223372036854775807 - x) < d) = False := eq_false hm
  have h2 : (IntKind.i64.wrap (9223372036854775807 - x) < d) = False := eq_false (by rw [i64_w]; exact hm)
  rw [show mtr_more x d = wrap64 (x + d) by unfold mtr_more; rw [if_neg hm]]
  clear hm
  go_wp2
  all_goals go_end0
  all_goals exact ⟨rfl, (by first | rfl | (simp only [i64_w]))⟩
/-- A meter's block, one number of it changed. -/
theorem mtr_step {w0 w W : World} {g j : Nat} {a b c d : Int} {cs' : Array Value} (u : Int) (hI : IsS185 w0 W g a b c d) (he : #[Value.int .i64 a, .int .i64 b, .int .i64 c, .int .i64 d].setIfInBounds j (.int .i64 u) = cs') (hB : Below w0.heap.size w0 W) (hK : KeepBut w W g none) {W' : World} (hw : W' = W.drew.setCell ⟨g, j, none⟩ (.int .i64 u)) :
  (W'.heap[g]? = some (.cells cs' 185 (0, 0)) ∧ w0.heap.size ≤ g) ∧ Below w0.heap.size w0 W' ∧ KeepBut w W' g none := by
 subst hw
 exact ⟨⟨blk_put (blk_drew hI.1) j _ he, hI.2⟩, below_set (below_drew1 hB) hI.2, (keep_drew hK).set_ j _⟩
set_option maxHeartbeats 8000000 in
set_option maxRecDepth 100000 in
theorem mtr_Count.calls (k g : Nat) (s0 s1 s2 s3 : Int) (A1 : Option Addr) (c1 : Nat) (l1 : List Bool) (A2 : Option Addr) (c2 : Nat) (l2 : List Bool) (t1 t2 t3 : Int) (w0 w : World) (hI : IsS185 w0 w g s0 s1 s2 s3) (hB : Below w0.heap.size w0 w) (hr1 : Kd.C Kd.bool w A1 l1.length l1) (hc1 : l1.length ≤ c1) (hr2 : Kd.C Kd.bool w A2 l2.length l2) (hc2 : l2.length ≤ c2) (h : meter_Errors.f k l1 l2 = some (t1, t2, t3)) :
  Calls Try.prog 41 #[.pointer (some ⟨g, 0, none⟩), .slice A1 l1.length c1, .slice A2 l2.length c2] w fun e w' => e = .returned (.int .i64 t3) ∧ IsS185 w0 w' g (mtr_next (s0, s1, s2, s3) l1.length (t1, t2, t3)).1 (mtr_next (s0, s1, s2, s3) l1.length (t1, t2, t3)).2.1 (mtr_next (s0, s1, s2, s3) l1.length (t1, t2, t3)).2.2.1 (mtr_next (s0, s1, s2, s3) l1.length (t1, t2, t3)).2.2.2 ∧ Below w0.heap.size w0 w' ∧ KeepBut w w' g none := by
 have HI := Aside0.mk hI
 have HB := Aside0.mk hB
 have HK := Aside0.mk (KeepBut.refl w g none)
 have HR1 := Aside0.mk hr1
 have HR2 := Aside0.mk hr2
 have HC1 := Aside0.mk hc1
 have HC2 := Aside0.mk hc2
 have HE := Aside0.mk h
 clear hI hB hr1 hr2 hc1 hc2 h
 go_enter Try.func41, Try.ntmps41
 obtain ⟨u, hu⟩ : ∃ u, (if t1 < 1 then t1 else 1) = u := ⟨_, rfl⟩
 unfold mtr_next
 by_cases h0 : t3 = 0
 ·subst h0
  have hb0 : ((0 : Int) != 0) = false := by decide
  rw [if_pos (show ((t1, t2, (0 : Int)) : Int × Int × Int).2.2 = 0 from rfl), show (if ((t1, t2, (0 : Int)) : Int × Int × Int).1 < 1 then ((t1, t2, (0 : Int)) : Int × Int × Int).1 else 1) = u from hu]
  go_wp2_with (first
   | (go_at_call 32; (with_reducible refine (meter_Errors.calls k A1 c1 l1 A2 c2 l2 t1 t2 0 _ HR1.out HC1.out HR2.out HC2.out HE.out).mono ?_); rintro e w1 ⟨rfl, ⟨nd, rfl⟩⟩; have HI1 := Aside0.mk (show IsS185 w0 (w.drewN nd) g s0 s1 s2 s3 from HI.out); have HB1 := Aside0.mk (pw_below_drewN HB.out nd); have HK1 := Aside0.mk (keep_drewN HK.out nd); clear HI HB HK; have hx1 := blk_cell HI1.out.1 0; have hf1 := blk_frozen HI1.out.1 0)
   | (go_at_call 111; (with_reducible refine (mtr_more.calls g 0 s0 1 _ hx1 hf1).mono ?_); rintro e w2 ⟨rfl, hw⟩; have HZ2 := Aside0.mk (mtr_step _ HI1.out rfl HB1.out HK1.out hw); clear hw hx1 hf1 HI1 HB1 HK1; have hx2 := blk_cell HZ2.out.1.1 1; have hf2 := blk_frozen HZ2.out.1.1 1)
   | (go_at_call 111; (with_reducible refine (mtr_more.calls g 1 s1 u _ hx2 hf2).mono ?_); rintro e w3 ⟨rfl, hw⟩; have HZ3 := Aside0.mk (mtr_step _ HZ2.out.1 rfl HZ2.out.2.1 HZ2.out.2.2 hw); clear hw hx2 hf2 HZ2; have hx3 := blk_cell HZ3.out.1.1 2; have hf3 := blk_frozen HZ3.out.1.1 2)
   | (go_at_call 111; (with_reducible refine (mtr_more.calls g 2 s2 (l1.length : Int) _ hx3 hf3).mono ?_); rintro e w4 ⟨rfl, hw⟩; have HZ4 := Aside0.mk (mtr_step _ HZ3.out.1 rfl HZ3.out.2.1 HZ3.out.2.2 hw); clear hw hx3 hf3 HZ3; have hx4 := blk_cell HZ4.out.1.1 3; have hf4 := blk_frozen HZ4.out.1.1 3)
   | (go_at_call 111; (with_reducible refine (mtr_more.calls g 3 s3 t1 _ hx4 hf4).mono ?_); rintro e w5 ⟨rfl, hw⟩; have HZ5 := Aside0.mk (mtr_step _ HZ4.out.1 rfl HZ4.out.2.1 HZ4.out.2.2 hw); clear hw hx4 hf4 HZ4))
  go_ret
  exact ⟨(by first | rfl | (simp [go_sem]; done)), HZ5.out.1, HZ5.out.2.1, HZ5.out.2.2⟩
 ·have hb0 : (t3 != 0) = true := bne_iff_ne.2 h0
  rw [if_neg (show ¬ ((t1, t2, t3) : Int × Int × Int).2.2 = 0 from h0)]
  go_wp2_with (first
   | (go_at_call 32; (with_reducible refine (meter_Errors.calls k A1 c1 l1 A2 c2 l2 t1 t2 t3 _ HR1.out HC1.out HR2.out HC2.out HE.out).mono ?_); rintro e w1 ⟨rfl, ⟨nd, rfl⟩⟩; have HI1 := Aside0.mk (show IsS185 w0 (w.drewN nd) g s0 s1 s2 s3 from HI.out); have HB1 := Aside0.mk (pw_below_drewN HB.out nd); have HK1 := Aside0.mk (keep_drewN HK.out nd); clear HI HB HK))
  go_ret
  exact ⟨(by first | rfl | (simp [go_sem]; done)), HI1.out, HB1.out, HK1.out⟩
theorem mc_within_state {s0 s1 s2 s3 x : Int} {r : Bool × Int × Int × Int × Int × Int} (h : meter_Meter_Within.f s0 s1 s2 s3 x = some r) : r = (r.1, r.2.1, s0, s1, s2, s3) := by
 unfold meter_Meter_Within.f at h
 split at h
 ·obtain rfl := Option.some.inj h
  rfl
 ·obtain ⟨b, _, h⟩ := Option.bind_eq_some_iff.1 h
  split at h
  ·obtain rfl := Option.some.inj h
   rfl
  ·obtain rfl := Option.some.inj h
   rfl
theorem mc_step_open {k : Nat} {t t' : Int × Int × Int × Int} {x : S61} (h : mc_step k t x = some t') : ∃ (e1 e2 e3 : Int) (a1 : Bool) (a2 : Int), foghornref30_Count.f k t.1 t.2.1 t.2.2.1 t.2.2.2 x.f0 x.f1 = some (t'.1, t'.2.1, t'.2.2.1, t'.2.2.2, e3) ∧ meter_Errors.f k x.f0 x.f1 = some (e1, e2, e3) ∧ meter_Meter_Within.f t'.1 t'.2.1 t'.2.2.1 t'.2.2.2 x.f2 = some (a1, a2, t'.1, t'.2.1, t'.2.2.1, t'.2.2.2) ∧ foghornref30_Within.f t'.1 t'.2.1 t'.2.2.1 t'.2.2.2 x.f2 = some (a1, a2) ∧
  (x.f0.length < 140737488355327 ∧ x.f1.length < 140737488355327) ∧ mtr_next t x.f0.length (e1, e2, e3) = t' := by
 unfold mc_step at h
 obtain ⟨⟨c1, c2, c3, c4, c5⟩, hc, h⟩ := Option.bind_eq_some_iff.1 h
 obtain ⟨⟨e1, e2, e3⟩, he, h⟩ := Option.bind_eq_some_iff.1 h
 obtain ⟨⟨a1, a2, a3, a4, a5, a6⟩, ha, h⟩ := Option.bind_eq_some_iff.1 h
 obtain ⟨⟨b1, b2⟩, hb, h⟩ := Option.bind_eq_some_iff.1 h
 split at h
 ·rename_i hk
  obtain ⟨h1, h2, h3, h4, h5⟩ := hk
  obtain rfl := Option.some.inj h
  have hs := mc_within_state ha
  dsimp only at h1 h4 h5 hs
  subst h1 h4 h5
  simp only [Prod.mk.injEq, true_and] at hs
  obtain ⟨rfl, rfl, rfl, rfl⟩ := hs
  exact ⟨e1, e2, e3, a1, a2, hc, he, ha, hb, h2, h3⟩
 ·cases h
theorem mc_lent (l : List Bool) (h : l.length < 140737488355327) : foghornlaw30_lent.f l = some l := by
 unfold foghornlaw30_lent.f
 rw [Option.bind_some, if_pos (by rw [List.length_nil]; omega), List.nil_append, Option.bind_some, if_pos (by omega), if_pos (by rw [List.length_append]; omega)]
/-- Both meters and the document's tally, each in its block. -/
structure mc_Z (w W : World) (g1 g2 g5 : Nat) (m1 m2 m3 m4 o1 o2 o3 o4 t1 t2 t3 t4 : Int) : Prop where
 hB : Below w.heap.size w W
 b1 : W.heap[g1]? = some (.cells #[.int .i64 m1, .int .i64 m2, .int .i64 m3, .int .i64 m4] 185 (0, 0))
 b2 : W.heap[g2]? = some (.cells #[.int .i64 o1, .int .i64 o2, .int .i64 o3, .int .i64 o4] 185 (0, 0))
 b5 : W.heap[g5]? = some (.cells #[.int .i64 t1, .int .i64 t2, .int .i64 t3, .int .i64 t4] 57 (0, 0))
 n1 : w.heap.size ≤ g1
 n2 : w.heap.size ≤ g2
 n5 : w.heap.size ≤ g5
 d12 : g1 ≠ g2
 d15 : g1 ≠ g5
 d25 : g2 ≠ g5
section
variable {w W W' : World} {g1 g2 g5 : Nat} {m1 m2 m3 m4 o1 o2 o3 o4 t1 t2 t3 t4 : Int}
theorem mc_Z.below (h : mc_Z w W g1 g2 g5 m1 m2 m3 m4 o1 o2 o3 o4 t1 t2 t3 t4) (hb : Below W.heap.size W W') : mc_Z w W' g1 g2 g5 m1 m2 m3 m4 o1 o2 o3 o4 t1 t2 t3 t4 := ⟨below_step h.hB hb, blk_below h.b1 hb, blk_below h.b2 hb, blk_below h.b5 hb, h.n1, h.n2, h.n5, h.d12, h.d15, h.d25⟩
theorem mc_Z.i1 (h : mc_Z w W g1 g2 g5 m1 m2 m3 m4 o1 o2 o3 o4 t1 t2 t3 t4) : IsS185 w W g1 m1 m2 m3 m4 := ⟨h.b1, h.n1⟩
theorem mc_Z.i2 (h : mc_Z w W g1 g2 g5 m1 m2 m3 m4 o1 o2 o3 o4 t1 t2 t3 t4) : IsS185 w W g2 o1 o2 o3 o4 := ⟨h.b2, h.n2⟩
theorem mc_Z.keep1 (h : mc_Z w W g1 g2 g5 m1 m2 m3 m4 o1 o2 o3 o4 t1 t2 t3 t4) {q1 q2 q3 q4 : Int} (hI : IsS185 w W' g1 q1 q2 q3 q4) (hB : Below w.heap.size w W') (hk : KeepBut W W' g1 none) : mc_Z w W' g1 g2 g5 q1 q2 q3 q4 o1 o2 o3 o4 t1 t2 t3 t4 := ⟨hB, hI.1, hk.blk h.b2 (Ne.symm h.d12) (by simp), hk.blk h.b5 (Ne.symm h.d15) (by simp), h.n1, h.n2, h.n5, h.d12, h.d15, h.d25⟩
theorem mc_Z.keep2 (h : mc_Z w W g1 g2 g5 m1 m2 m3 m4 o1 o2 o3 o4 t1 t2 t3 t4) {q1 q2 q3 q4 : Int} (hI : IsS185 w W' g2 q1 q2 q3 q4) (hB : Below w.heap.size w W') (hk : KeepBut W W' g2 none) : mc_Z w W' g1 g2 g5 m1 m2 m3 m4 q1 q2 q3 q4 t1 t2 t3 t4 := ⟨hB, hk.blk h.b1 h.d12 (by simp), hI.1, hk.blk h.b5 (Ne.symm h.d25) (by simp), h.n1, h.n2, h.n5, h.d12, h.d15, h.d25⟩
theorem mc_Z.put (h : mc_Z w W g1 g2 g5 m1 m2 m3 m4 o1 o2 o3 o4 t1 t2 t3 t4) (c1 c2 c3 c4 : Int) : mc_Z w ((((W.setCell ⟨g5, 0, none⟩ (.int .i64 c1)).setCell ⟨g5, 1, none⟩ (.int .i64 c2)).setCell ⟨g5, 2, none⟩ (.int .i64 c3)).setCell ⟨g5, 3, none⟩ (.int .i64 c4)) g1 g2 g5 m1 m2 m3 m4 o1 o2 o3 o4 c1 c2 c3 c4 := by
 have f1 : ∀ (X : World) (j : Nat) (u : Value), (X.setCell ⟨g5, j, none⟩ u).heap[g1]? = X.heap[g1]? := fun X j u => Below.heap_setCell X ⟨g5, j, none⟩ u g1 h.d15
 have f2 : ∀ (X : World) (j : Nat) (u : Value), (X.setCell ⟨g5, j, none⟩ u).heap[g2]? = X.heap[g2]? := fun X j u => Below.heap_setCell X ⟨g5, j, none⟩ u g2 h.d25
 refine ⟨below_set (below_set (below_set (below_set h.hB h.n5) h.n5) h.n5) h.n5, by rw [f1, f1, f1, f1]; exact h.b1, by rw [f2, f2, f2, f2]; exact h.b2, ?_, h.n1, h.n2, h.n5, h.d12, h.d15, h.d25⟩
 exact blk_put (cs := #[.int .i64 c1, .int .i64 c2, .int .i64 c3, .int .i64 t4]) (blk_put (cs := #[.int .i64 c1, .int .i64 c2, .int .i64 t3, .int .i64 t4]) (blk_put (cs := #[.int .i64 c1, .int .i64 t2, .int .i64 t3, .int .i64 t4]) (blk_put h.b5 0 _ rfl) 1 _ rfl) 2 _ rfl) 3 _ rfl
end
theorem mc_cell {W W' : World} {a : Addr} {u : Value} (h : W.cell? a = some u) (hb : Below W.heap.size W W') : W'.cell? a = some u := (hb.cell (World.block_lt_of_cell? W a h)).trans h
theorem mc_kept {w W' : World} {a : Addr} {u : Value} (h : w.cell? a = some u) (hb : Below w.heap.size w W') : W'.cell? a = some u := (hb.cell (World.block_lt_of_cell? w a h)).trans h
set_option maxHeartbeats 8000000 in
set_option maxRecDepth 100000 in
theorem mc_go (k : Nat) (A0 : Option Addr) (c0 : Nat) (l0 : List S61) (w : World) (hr0 : Kd.C k61 w A0 l0.length l0) (hc0 : l0.length ≤ c0) (z1 z2 z3 : Int) (hz : meter_Errors.f k [true] [false] = some (z1, z2, z3)) (hrun : mc_run k l0 40 (0, 0, 0, 0) = some true) :
  Calls Try.prog 6 #[.slice A0 l0.length c0] w fun e w' => e = .returned (.bool true) ∧ Below w.heap.size w w' := by
 have HR0 := Aside0.mk hr0
 have HZ_ := Aside0.mk hz
 have HRUN := Aside0.mk hrun
 have HB := Aside0.mk (Below.refl w.heap.size w)
 have HNEW := Aside0.mk (show meter_New.f = some (0, 0, 0, 0) from rfl)
 clear hr0 hz hrun
 have hu57 := Try.underlying57
 have hu63 := Try.underlying63
 go_enter Try.func6, Try.ntmps6
 go_wp2_with (first
  | (go_at_call 39; (with_reducible refine (meter_New.calls 0 0 0 0 w _ HB.out HNEW.out).mono ?_); rintro e w1 ⟨g1, rfl, hI, hB1, hB2⟩; have HI1 := Aside0.mk hI; have HB1 := Aside0.mk hB1; have HBR := Aside0.mk (Below.refl w1.heap.size w1); clear hI hB1 hB2 HB)
  | (go_at_call 39; (with_reducible refine (meter_New.calls 0 0 0 0 w1 _ HBR.out HNEW.out).mono ?_); rintro e w2 ⟨g2, rfl, hI, hB1, hB2⟩; have HI2 := Aside0.mk hI; have HB2 := Aside0.mk hB1; clear hI hB1 hB2)
  | ((with_reducible refine gate_dst (N := 5) rfl ?_); refine box_event ?hg (N := 5) ?hd (cs := #[.int .i64 0, .int .i64 0, .int .i64 0, .int .i64 0]) (t := 57) ?hr ?_; (case hd => rfl); (case hg => rfl); (case hr => first | (go_simp; done) | (go_simp; rfl)); intro g5 hg5 w3 hbox hb; have HBX := Aside0.mk hbox; have HG5 := Aside0.mk hg5; have HB3 := Aside0.mk hb; clear hbox hg5 hb))
 have HZ : Aside0 (mc_Z w w3 g1 g2 g5 0 0 0 0 0 0 0 0 0 0 0 0) := ⟨by
  have h1 := blk_lt HI1.out.1
  have h2 := blk_lt HI2.out.1
  have h3 := HI2.out.2
  have h4 := HG5.out
  have h5 := HB1.out.size
  have h6 := HI1.out.2
  have h7 := HB2.out.size
  exact ⟨below_step (below_step HB1.out HB2.out) HB3.out, blk_below (blk_below HI1.out.1 HB2.out) HB3.out, blk_below HI2.out.1 HB3.out, HBX.out, h6, by omega, by omega, by omega, by omega, by omega⟩⟩
 clear HI1 HI2 HB1 HB2 HB3 HBX HG5 HBR
 go_loopg [6] (l0.length + 1) (fun kq v6 w' => ∃ (i : Nat) (t1 t2 t3 t4 o1 o2 o3 o4 : Int), v6 = .int .i64 (i : Int) ∧ Aside0 (i + kq = l0.length + 1 ∧ i ≤ l0.length ∧ i ≤ 40) ∧ Aside0 (mc_run k (l0.drop i) (40 - i) (t1, t2, t3, t4) = some true) ∧ Aside0 (mc_Z w w' g1 g2 g5 t1 t2 t3 t4 o1 o2 o3 o4 t1 t2 t3 t4))
 case atStart => exact ⟨0, 0, 0, 0, 0, 0, 0, 0, 0, rfl, ⟨by omega, Nat.zero_le _, by omega⟩, HRUN, HZ⟩
 case round =>
  clear HZ HRUN
  obtain ⟨i, t1, t2, t3, t4, o1, o2, o3, o4, rfl, HK, HRUN, HZ⟩ := hrel
  cases gk with
  | zero => have := HK.out; omega
  | succ k1 =>
  by_cases hi : i < l0.length
  ·have hlt : decide (i < l0.length) = true := decide_eq_true hi
   have hlt' : decide ((i : Int) < (l0.length : Int)) = true := decide_eq_true (by omega)
   by_cases h40 : i < 40
   ·have hg1 : decide (i < 40) = true := decide_eq_true h40
    have hg2 : decide ((i : Int) < 40) = true := decide_eq_true (by omega)
    obtain ⟨x, hx⟩ : ∃ x, x = l0[i] := ⟨_, rfl⟩
    have hrn := HRUN.out
    rw [List.drop_eq_getElem_cons hi, ← hx, show 40 - i = (39 - i) + 1 by omega, mc_run] at hrn
    obtain ⟨⟨r1, r2, r3, r4⟩, hst, hrn⟩ := Option.bind_eq_some_iff.1 hrn
    obtain ⟨e1, e2, e3, a1, a2, hcnt, herr, hw1, hw2, hlen, hnx⟩ := mc_step_open hst
    dsimp only at hcnt hw1 hw2
    have HRN := Aside0.mk hrn
    have HCNT := Aside0.mk hcnt
    have HERR := Aside0.mk herr
    have HW1 := Aside0.mk hw1
    have HW2 := Aside0.mk hw2
    have HLEN := Aside0.mk hlen
    have HNX := Aside0.mk hnx
    obtain ⟨ad, X0, d0, X1, d1, rfl, hc0, hc1, hc2, hl0, hC0, hl1, hC1⟩ := at_T61 HR0.out (i : Int) (by omega) (by omega)
    have hrd : rd_T61 l0 (i : Int) = x := by unfold rd_T61; rw [Int.toNat_natCast, List.getD_eq_getElem?_getD, List.getElem?_eq_getElem hi, hx]; rfl
    rw [hrd] at hc0 hc1 hc2 hl0 hC0 hl1 hC1
    rw [Int.toNat_natCast] at hc0 hc1 hc2
    have HX0 := Aside0.mk hc0
    have HX1 := Aside0.mk hc1
    have HX2 := Aside0.mk hc2
    have HL0 := Aside0.mk hl0
    have HL1 := Aside0.mk hl1
    have HC0 := Aside0.mk hC0
    have HC1 := Aside0.mk hC1
    have HIL := Aside0.mk hi
    have HI40 := Aside0.mk h40
    have hp0 : (0 ≤ (i : Int)) = True := eq_true (by omega)
    have hp1 : ((i : Int) < (l0.length : Int)) = True := eq_true (by omega)
    have hp2 : (i < l0.length) = True := eq_true hi
    clear hrn hst hcnt herr hw1 hw2 hlen hnx hrd hc0 hc1 hc2 hl0 hC0 hl1 hC1 hi h40 hx HRUN
    go_upto_region 8 with (fail)
    have HZd := Aside0.mk (HZ.out.below (below_drew (Below.refl _ _)))
    have HT := Aside0.mk (show wr.drew.cell? ⟨g5, 0, none⟩ = some (.int .i64 t1) ∧ wr.drew.cell? ⟨g5, 1, none⟩ = some (.int .i64 t2) ∧ wr.drew.cell? ⟨g5, 2, none⟩ = some (.int .i64 t3) ∧ wr.drew.cell? ⟨g5, 3, none⟩ = some (.int .i64 t4) from ⟨(blk_cell HZd.out.b5 0).trans rfl, (blk_cell HZd.out.b5 1).trans rfl, (blk_cell HZd.out.b5 2).trans rfl, (blk_cell HZd.out.b5 3).trans rfl⟩)
    refine start_ (n := 17) (S := fun w' => w'.cell? ⟨g5, 0, none⟩ = some (.int .i64 t1) ∧ w'.cell? ⟨g5, 1, none⟩ = some (.int .i64 t2) ∧ w'.cell? ⟨g5, 2, none⟩ = some (.int .i64 t3) ∧ w'.cell? ⟨g5, 3, none⟩ = some (.int .i64 t4) ∧ w'.cell? (ad.add (i * 3)) = some (.slice X0 x.f0.length d0) ∧ w'.cell? ⟨(ad.add (i * 3)).block, (ad.add (i * 3)).off + 1, none⟩ = some (.slice X1 x.f1.length d1)) (ds := [15]) #[false, false, false, false, false, false, false, false, false, false, false, false, false, false, false, false, false] (by kernel_rfl) rfl rfl ⟨HT.out.1, HT.out.2.1, HT.out.2.2.1, HT.out.2.2.2, mc_kept HX0.out HZd.out.hB, mc_kept HX1.out HZd.out.hB⟩ (fun hHeld => ?_)
    refine pure_ (i := 1) (N := some 28) (v := ?_) (a' := ?_) #[false, true, false, false, false, false, false, false, false, false, false, false, false, false, false, false, false] rfl rfl (by kernel_rfl) (fun _ _ _ h => h) (Or.inl ⟨by rfl, ?_⟩) ?_ ?_
    rotate_left
    ·intro w'
     go_simp
     with_reducible rfl
    rotate_left
    ·simp only [Act.put, List.setIfInBounds_toArray, List.set_cons_zero, List.set_cons_succ, i64_w, i32_w]
     rfl
    refine pure_ (i := 2) (N := some 29) (v := ?_) (a' := ?_) #[false, true, true, false, false, false, false, false, false, false, false, false, false, false, false, false, false] rfl rfl (by kernel_rfl) (fun _ _ _ h => h) (Or.inl ⟨by rfl, ?_⟩) ?_ ?_
    rotate_left
    ·intro w'
     go_simp
     with_reducible rfl
    rotate_left
    ·simp only [Act.put, List.setIfInBounds_toArray, List.set_cons_zero, List.set_cons_succ, i64_w, i32_w]
     rfl
    refine pure_ (i := 3) (N := some 30) (v := ?_) (a' := ?_) #[false, true, true, true, false, false, false, false, false, false, false, false, false, false, false, false, false] rfl rfl (by kernel_rfl) (fun _ _ _ h => h) (Or.inl ⟨by rfl, ?_⟩) ?_ ?_
    rotate_left
    ·intro w'
     go_simp
     with_reducible rfl
    rotate_left
    ·simp only [Act.put, List.setIfInBounds_toArray, List.set_cons_zero, List.set_cons_succ, i64_w, i32_w]
     rfl
    refine pure_ (i := 4) (N := some 31) (v := ?_) (a' := ?_) #[false, true, true, true, true, false, false, false, false, false, false, false, false, false, false, false, false] rfl rfl (by kernel_rfl) (fun _ _ _ h => h) (Or.inl ⟨by rfl, ?_⟩) ?_ ?_
    rotate_left
    ·intro w'
     go_simp
     with_reducible rfl
    rotate_left
    ·simp only [Act.put, List.setIfInBounds_toArray, List.set_cons_zero, List.set_cons_succ, i64_w, i32_w]
     rfl
    refine pure_ (i := 6) (N := some 33) (v := ?_) (a' := ?_) #[false, true, true, true, true, false, true, false, false, false, false, false, false, false, false, false, false] rfl rfl (by kernel_rfl) (fun _ _ _ h => h) (Or.inl ⟨by rfl, ?_⟩) ?_ ?_
    rotate_left
    ·intro w'
     go_simp
     with_reducible rfl
    rotate_left
    ·simp only [Act.put, List.setIfInBounds_toArray, List.set_cons_zero, List.set_cons_succ, i64_w, i32_w]
     rfl
    refine pure_ (i := 7) (N := some 34) (v := ?_) (a' := ?_) #[false, true, true, true, true, false, true, true, false, false, false, false, false, false, false, false, false] rfl rfl (by kernel_rfl) (fun _ _ _ h => h) (Or.inl ⟨by rfl, ?_⟩) ?_ ?_
    rotate_left
    ·intro w'
     go_simp
     with_reducible rfl
    rotate_left
    ·simp only [Act.put, List.setIfInBounds_toArray, List.set_cons_zero, List.set_cons_succ, i64_w, i32_w]
     rfl
    refine pure_ (i := 8) (N := some 35) (v := ?_) (a' := ?_) #[false, true, true, true, true, false, true, true, true, false, false, false, false, false, false, false, false] rfl rfl (by kernel_rfl) (fun _ _ _ h => h) (Or.inl ⟨by rfl, ?_⟩) ?_ ?_
    rotate_left
    ·intro w'
     go_simp
     with_reducible rfl
    rotate_left
    ·simp only [Act.put, List.setIfInBounds_toArray, List.set_cons_zero, List.set_cons_succ, i64_w, i32_w]
     rfl
    refine pure_ (i := 9) (N := some 36) (v := ?_) (a' := ?_) #[false, true, true, true, true, false, true, true, true, true, false, false, false, false, false, false, false] rfl rfl (by kernel_rfl) (fun _ _ _ h => h) (Or.inl ⟨by rfl, ?_⟩) ?_ ?_
    rotate_left
    ·intro w'
     go_simp
     with_reducible rfl
    rotate_left
    ·simp only [Act.put, List.setIfInBounds_toArray, List.set_cons_zero, List.set_cons_succ, i64_w, i32_w]
     rfl
    refine take_ (i := 0) (N := some 27) (v := ?_) (a' := ?_) #[true, true, true, true, true, false, true, true, true, true, false, false, false, false, false, false, false] rfl rfl (by kernel_rfl) (fun _ _ _ h => h) (Or.inl ⟨by rfl, ?_⟩) hHeld ?_ ?_
    rotate_left
    ·rintro w' ⟨s0, s1, s2, s3, s4, s5⟩
     go_simp
     with_reducible rfl
    rotate_left
    ·simp only [Act.put, List.setIfInBounds_toArray, List.set_cons_zero, List.set_cons_succ, i64_w, i32_w]
     rfl
    refine take_ (i := 5) (N := some 32) (v := ?_) (a' := ?_) #[true, true, true, true, true, true, true, true, true, true, false, false, false, false, false, false, false] rfl rfl (by kernel_rfl) (fun _ _ _ h => h) (Or.inl ⟨by rfl, ?_⟩) hHeld ?_ ?_
    rotate_left
    ·rintro w' ⟨s0, s1, s2, s3, s4, s5⟩
     go_simp
     with_reducible rfl
    rotate_left
    ·simp only [Act.put, List.setIfInBounds_toArray, List.set_cons_zero, List.set_cons_succ, i64_w, i32_w]
     rfl
    refine take_ (i := 10) (N := some 37) (v := ?_) (a' := ?_) #[true, true, true, true, true, true, true, true, true, true, true, false, false, false, false, false, false] rfl rfl (by kernel_rfl) (fun _ _ _ h => h) (Or.inl ⟨by rfl, ?_⟩) hHeld ?_ ?_
    rotate_left
    ·rintro w' ⟨s0, s1, s2, s3, s4, s5⟩
     go_simp
     with_reducible rfl
    rotate_left
    ·simp only [Act.put, List.setIfInBounds_toArray, List.set_cons_zero, List.set_cons_succ, i64_w, i32_w]
     rfl
    refine one_ (i := 11) (N := some 38) #[true, true, true, true, true, true, true, true, true, true, true, true, false, false, false, false, false] rfl rfl (by kernel_rfl) (by decide) (fun K hK => ?_)
    refine goes_ Try.func40 (by kernel_rfl) rfl #[.agg #[.int .i64 t1, .int .i64 t2, .int .i64 t3, .int .i64 t4], .slice X0 x.f0.length d0, .slice X1 x.f1.length d1] (by rfl) rfl rfl (by simp only [List.map_toArray, List.map_cons, List.map_nil]; rfl) ?_
    with_reducible refine (foghornref30_Count.calls k t1 t2 t3 t4 X0 d0 x.f0 X1 d1 x.f1 r1 r2 r3 r4 e3 _ (Kd.C_below HC0.out HZd.out.hB) HL0.out (Kd.C_below HC1.out HZd.out.hB) HL1.out HCNT.out).mono ?_
    rintro e w3 ⟨rfl, hb⟩
    refine ⟨_, rfl, ?_⟩
    have HZ3 := Aside0.mk (HZd.out.below hb)
    clear hb
    have hcz0 : w3.cell? ⟨g5, 0, none⟩ = some (.int .i64 t1) := (blk_cell HZ3.out.b5 0).trans rfl
    have hcz1 : w3.cell? ⟨g5, 1, none⟩ = some (.int .i64 t2) := (blk_cell HZ3.out.b5 1).trans rfl
    have hcz2 : w3.cell? ⟨g5, 2, none⟩ = some (.int .i64 t3) := (blk_cell HZ3.out.b5 2).trans rfl
    have hcz3 : w3.cell? ⟨g5, 3, none⟩ = some (.int .i64 t4) := (blk_cell HZ3.out.b5 3).trans rfl
    have hfz0 := blk_frozen HZ3.out.b5 0
    have hfz1 := blk_frozen HZ3.out.b5 1
    have hfz2 := blk_frozen HZ3.out.b5 2
    have hfz3 := blk_frozen HZ3.out.b5 3
    refine hK.out _ _ ⟨hcz0, hcz1, hcz2, hcz3, mc_kept HX0.out HZ3.out.hB, mc_kept HX1.out HZ3.out.hB⟩ (fun hHeld => ?_)
    clear hK K
    refine norm_ (a' := ?_) ?_ ?_
    rotate_left
    ·show Act.put _ (some 38) _ = _
     simp only [Act.put, List.setIfInBounds_toArray, List.set_cons_zero, List.set_cons_succ, i64_w, i32_w]
     rfl
    refine pure_ (i := 12) (N := some 26) (v := ?_) (a' := ?_) #[true, true, true, true, true, true, true, true, true, true, true, true, true, false, false, false, false] rfl rfl (by kernel_rfl) (fun _ _ _ h => h) (Or.inl ⟨by rfl, ?_⟩) ?_ ?_
    rotate_left
    ·intro w'
     go_simp
     with_reducible rfl
    rotate_left
    ·simp only [Act.put, List.setIfInBounds_toArray, List.set_cons_zero, List.set_cons_succ, i64_w, i32_w]
     rfl
    refine pure_ (i := 13) (N := some 39) (v := ?_) (a' := ?_) #[true, true, true, true, true, true, true, true, true, true, true, true, true, true, false, false, false] rfl rfl (by kernel_rfl) (fun _ _ _ h => h) (Or.inl ⟨by rfl, ?_⟩) ?_ ?_
    rotate_left
    ·intro w'
     go_simp
     with_reducible rfl
    rotate_left
    ·simp only [Act.put, List.setIfInBounds_toArray, List.set_cons_zero, List.set_cons_succ, i64_w, i32_w]
     rfl
    refine pure_ (i := 14) (N := some 40) (v := ?_) (a' := ?_) #[true, true, true, true, true, true, true, true, true, true, true, true, true, true, true, false, false] rfl rfl (by kernel_rfl) (fun _ _ _ h => h) (Or.inl ⟨by rfl, ?_⟩) ?_ ?_
    rotate_left
    ·intro w'
     go_simp
     with_reducible rfl
    rotate_left
    ·simp only [Act.put, List.setIfInBounds_toArray, List.set_cons_zero, List.set_cons_succ, i64_w, i32_w]
     rfl
    refine last_ (i := 15) (N := none) #[true, true, true, true, true, true, true, true, true, true, true, true, true, true, true, true, false] rfl rfl (by kernel_rfl) (by decide) (fun K hK => ?_)
    refine skip_ (w1 := ?_) (by rfl) rfl ?_ ?_
    rotate_left
    ·go_simp
     rfl
    refine hK.out _ _ ?_
    clear hK K
    refine pure_ (i := 16) (N := some 7) (v := ?_) (a' := ?_) #[true, true, true, true, true, true, true, true, true, true, true, true, true, true, true, true, true] rfl rfl (by kernel_rfl) (fun _ _ _ h => h) (Or.inl ⟨by rfl, ?_⟩) ?_ ?_
    rotate_left
    ·intro w'
     go_simp
     with_reducible rfl
    rotate_left
    ·simp only [Act.put, List.setIfInBounds_toArray, List.set_cons_zero, List.set_cons_succ, i64_w, i32_w]
     rfl
    refine done_ (by kernel_rfl) ?_
    have HZ4 := Aside0.mk (HZ3.out.put r1 r2 r3 r4)
    clear hcz0 hcz1 hcz2 hcz3 hfz0 hfz1 hfz2 hfz3 HZd HT HZ3 HZ
    generalize ((((w3.setCell ⟨g5, 0, none⟩ (.int .i64 r1)).setCell ⟨g5, 1, none⟩ (.int .i64 r2)).setCell ⟨g5, 2, none⟩ (.int .i64 r3)).setCell ⟨g5, 3, none⟩ (.int .i64 r4)) = w4 at *
    have HLA := Aside0.mk (mc_lent x.f0 HLEN.out.1)
    have HLB := Aside0.mk (mc_lent x.f1 HLEN.out.2)
    go_upto_region 9 with (fail)
    have HZe := Aside0.mk (HZ4.out.below (below_drew (Below.refl _ _)))
    refine start_ (n := 16) (S := fun w' => w'.cell? (ad.add (i * 3)) = some (.slice X0 x.f0.length d0) ∧ w'.cell? ⟨(ad.add (i * 3)).block, (ad.add (i * 3)).off + 1, none⟩ = some (.slice X1 x.f1.length d1)) (ds := [13]) #[false, false, false, false, false, false, false, false, false, false, false, false, false, false, false, false] (by kernel_rfl) rfl rfl ⟨mc_kept HX0.out HZe.out.hB, mc_kept HX1.out HZe.out.hB⟩ (fun hHeld => ?_)
    refine pure_ (i := 0) (N := some 41) (v := ?_) (a' := ?_) #[true, false, false, false, false, false, false, false, false, false, false, false, false, false, false, false] rfl rfl (by kernel_rfl) (fun _ _ _ h => h) (Or.inl ⟨by rfl, ?_⟩) ?_ ?_
    rotate_left
    ·intro w'
     go_simp
     with_reducible rfl
    rotate_left
    ·simp only [Act.put, List.setIfInBounds_toArray, List.set_cons_zero, List.set_cons_succ, i64_w, i32_w]
     rfl
    refine pure_ (i := 1) (N := some 42) (v := ?_) (a' := ?_) #[true, true, false, false, false, false, false, false, false, false, false, false, false, false, false, false] rfl rfl (by kernel_rfl) (fun _ _ _ h => h) (Or.inl ⟨by rfl, ?_⟩) ?_ ?_
    rotate_left
    ·intro w'
     go_simp
     with_reducible rfl
    rotate_left
    ·simp only [Act.put, List.setIfInBounds_toArray, List.set_cons_zero, List.set_cons_succ, i64_w, i32_w]
     rfl
    refine pure_ (i := 2) (N := some 43) (v := ?_) (a' := ?_) #[true, true, true, false, false, false, false, false, false, false, false, false, false, false, false, false] rfl rfl (by kernel_rfl) (fun _ _ _ h => h) (Or.inl ⟨by rfl, ?_⟩) ?_ ?_
    rotate_left
    ·intro w'
     go_simp
     with_reducible rfl
    rotate_left
    ·simp only [Act.put, List.setIfInBounds_toArray, List.set_cons_zero, List.set_cons_succ, i64_w, i32_w]
     rfl
    refine pure_ (i := 3) (N := some 44) (v := ?_) (a' := ?_) #[true, true, true, true, false, false, false, false, false, false, false, false, false, false, false, false] rfl rfl (by kernel_rfl) (fun _ _ _ h => h) (Or.inl ⟨by rfl, ?_⟩) ?_ ?_
    rotate_left
    ·intro w'
     go_simp
     with_reducible rfl
    rotate_left
    ·simp only [Act.put, List.setIfInBounds_toArray, List.set_cons_zero, List.set_cons_succ, i64_w, i32_w]
     rfl
    refine pure_ (i := 4) (N := some 45) (v := ?_) (a' := ?_) #[true, true, true, true, true, false, false, false, false, false, false, false, false, false, false, false] rfl rfl (by kernel_rfl) (fun _ _ _ h => h) (Or.inl ⟨by rfl, ?_⟩) ?_ ?_
    rotate_left
    ·intro w'
     go_simp
     with_reducible rfl
    rotate_left
    ·simp only [Act.put, List.setIfInBounds_toArray, List.set_cons_zero, List.set_cons_succ, i64_w, i32_w]
     rfl
    refine pure_ (i := 7) (N := some 48) (v := ?_) (a' := ?_) #[true, true, true, true, true, false, false, true, false, false, false, false, false, false, false, false] rfl rfl (by kernel_rfl) (fun _ _ _ h => h) (Or.inl ⟨by rfl, ?_⟩) ?_ ?_
    rotate_left
    ·intro w'
     go_simp
     with_reducible rfl
    rotate_left
    ·simp only [Act.put, List.setIfInBounds_toArray, List.set_cons_zero, List.set_cons_succ, i64_w, i32_w]
     rfl
    refine pure_ (i := 8) (N := some 49) (v := ?_) (a' := ?_) #[true, true, true, true, true, false, false, true, true, false, false, false, false, false, false, false] rfl rfl (by kernel_rfl) (fun _ _ _ h => h) (Or.inl ⟨by rfl, ?_⟩) ?_ ?_
    rotate_left
    ·intro w'
     go_simp
     with_reducible rfl
    rotate_left
    ·simp only [Act.put, List.setIfInBounds_toArray, List.set_cons_zero, List.set_cons_succ, i64_w, i32_w]
     rfl
    refine pure_ (i := 9) (N := some 50) (v := ?_) (a' := ?_) #[true, true, true, true, true, false, false, true, true, true, false, false, false, false, false, false] rfl rfl (by kernel_rfl) (fun _ _ _ h => h) (Or.inl ⟨by rfl, ?_⟩) ?_ ?_
    rotate_left
    ·intro w'
     go_simp
     with_reducible rfl
    rotate_left
    ·simp only [Act.put, List.setIfInBounds_toArray, List.set_cons_zero, List.set_cons_succ, i64_w, i32_w]
     rfl
    refine pure_ (i := 10) (N := some 51) (v := ?_) (a' := ?_) #[true, true, true, true, true, false, false, true, true, true, true, false, false, false, false, false] rfl rfl (by kernel_rfl) (fun _ _ _ h => h) (Or.inl ⟨by rfl, ?_⟩) ?_ ?_
    rotate_left
    ·intro w'
     go_simp
     with_reducible rfl
    rotate_left
    ·simp only [Act.put, List.setIfInBounds_toArray, List.set_cons_zero, List.set_cons_succ, i64_w, i32_w]
     rfl
    refine pure_ (i := 14) (N := some 55) (v := ?_) (a' := ?_) #[true, true, true, true, true, false, false, true, true, true, true, false, false, false, true, false] rfl rfl (by kernel_rfl) (fun _ _ _ h => h) (Or.inl ⟨by rfl, ?_⟩) ?_ ?_
    rotate_left
    ·intro w'
     go_simp
     with_reducible rfl
    rotate_left
    ·simp only [Act.put, List.setIfInBounds_toArray, List.set_cons_zero, List.set_cons_succ, i64_w, i32_w]
     rfl
    refine take_ (i := 5) (N := some 46) (v := ?_) (a' := ?_) #[true, true, true, true, true, true, false, true, true, true, true, false, false, false, true, false] rfl rfl (by kernel_rfl) (fun _ _ _ h => h) (Or.inl ⟨by rfl, ?_⟩) hHeld ?_ ?_
    rotate_left
    ·rintro w' ⟨s0, s1⟩
     go_simp
     with_reducible rfl
    rotate_left
    ·simp only [Act.put, List.setIfInBounds_toArray, List.set_cons_zero, List.set_cons_succ, i64_w, i32_w]
     rfl
    refine take_ (i := 11) (N := some 52) (v := ?_) (a' := ?_) #[true, true, true, true, true, true, false, true, true, true, true, true, false, false, true, false] rfl rfl (by kernel_rfl) (fun _ _ _ h => h) (Or.inl ⟨by rfl, ?_⟩) hHeld ?_ ?_
    rotate_left
    ·rintro w' ⟨s0, s1⟩
     go_simp
     with_reducible rfl
    rotate_left
    ·simp only [Act.put, List.setIfInBounds_toArray, List.set_cons_zero, List.set_cons_succ, i64_w, i32_w]
     rfl
    refine one_ (i := 6) (N := some 47) #[true, true, true, true, true, true, true, true, true, true, true, true, false, false, true, false] rfl rfl (by kernel_rfl) (by decide) (fun K hK => ?_)
    refine goes_ Try.func31 (by kernel_rfl) rfl #[.slice X0 x.f0.length d0] (by rfl) rfl rfl (by simp only [List.map_toArray, List.map_cons, List.map_nil]; rfl) ?_
    with_reducible refine (foghornlaw30_lent.calls X0 d0 x.f0 x.f0 _ (Kd.C_below HC0.out HZe.out.hB) HL0.out HLA.out).mono ?_
    rintro e wa ⟨va, rfl, hu, hb⟩
    refine ⟨_, rfl, ?_⟩
    obtain ⟨Qa, qa, rfl⟩ := Kd.U_slice hu
    have HUa := Aside0.mk hu
    have HZa := Aside0.mk (HZe.out.below hb)
    clear hu hb
    refine hK.out _ _ ⟨mc_kept HX0.out HZa.out.hB, mc_kept HX1.out HZa.out.hB⟩ (fun hHeld => ?_)
    clear hK K
    refine norm_ (a' := ?_) ?_ ?_
    rotate_left
    ·show Act.put _ (some 47) _ = _
     simp only [Act.put, List.setIfInBounds_toArray, List.set_cons_zero, List.set_cons_succ, i64_w, i32_w]
     rfl
    refine one_ (i := 12) (N := some 53) #[true, true, true, true, true, true, true, true, true, true, true, true, true, false, true, false] rfl rfl (by kernel_rfl) (by decide) (fun K hK => ?_)
    refine goes_ Try.func31 (by kernel_rfl) rfl #[.slice X1 x.f1.length d1] (by rfl) rfl rfl (by simp only [List.map_toArray, List.map_cons, List.map_nil]; rfl) ?_
    with_reducible refine (foghornlaw30_lent.calls X1 d1 x.f1 x.f1 _ (Kd.C_below HC1.out HZa.out.hB) HL1.out HLB.out).mono ?_
    rintro e wb ⟨vb, rfl, hu, hb⟩
    refine ⟨_, rfl, ?_⟩
    obtain ⟨Qb, qb, rfl⟩ := Kd.U_slice hu
    have HUb := Aside0.mk hu
    have HUa2 := Aside0.mk (Kd.U_below HUa.out hb)
    have HZb := Aside0.mk (HZa.out.below hb)
    clear hu hb
    refine hK.out _ _ ⟨mc_kept HX0.out HZb.out.hB, mc_kept HX1.out HZb.out.hB⟩ (fun hHeld => ?_)
    clear hK K
    refine norm_ (a' := ?_) ?_ ?_
    rotate_left
    ·show Act.put _ (some 53) _ = _
     simp only [Act.put, List.setIfInBounds_toArray, List.set_cons_zero, List.set_cons_succ, i64_w, i32_w]
     rfl
    refine last_ (i := 13) (N := some 54) #[true, true, true, true, true, true, true, true, true, true, true, true, true, true, true, false] rfl rfl (by kernel_rfl) (by decide) (fun K hK => ?_)
    refine goes_ Try.func41 (by kernel_rfl) rfl #[.pointer (some ⟨g1, 0, none⟩), .slice Qa x.f0.length qa, .slice Qb x.f1.length qb] (by rfl) rfl rfl (by simp only [List.map_toArray, List.map_cons, List.map_nil]; rfl) ?_
    with_reducible refine (mtr_Count.calls k g1 t1 t2 t3 t4 Qa qa x.f0 Qb qb x.f1 e1 e2 e3 w _ HZb.out.i1 HZb.out.hB (Kd.U_reads' HUa2.out).2.2 (Kd.U_reads' HUa2.out).2.1 (Kd.U_reads' HUb.out).2.2 (Kd.U_reads' HUb.out).2.1 HERR.out).mono ?_
    rintro e wc ⟨rfl, hI, hB, hk⟩
    refine ⟨_, rfl, ?_⟩
    have HZc := Aside0.mk (HZb.out.keep1 hI hB hk)
    clear hI hB hk
    refine hK.out _ _ ?_
    clear hK K
    refine norm_ (a' := ?_) ?_ ?_
    rotate_left
    ·show Act.put _ (some 54) _ = _
     simp only [Act.put, List.setIfInBounds_toArray, List.set_cons_zero, List.set_cons_succ, i64_w, i32_w]
     rfl
    refine pure_ (i := 15) (N := some 56) (v := ?_) (a' := ?_) #[true, true, true, true, true, true, true, true, true, true, true, true, true, true, true, true] rfl rfl (by kernel_rfl) (fun _ _ _ h => h) (Or.inl ⟨by rfl, ?_⟩) ?_ ?_
    rotate_left
    ·intro w'
     go_simp
     with_reducible rfl
    rotate_left
    ·simp only [Act.put, List.setIfInBounds_toArray, List.set_cons_zero, List.set_cons_succ, i64_w, i32_w]
     rfl
    refine done_ (by kernel_rfl) ?_
    have HZf : Aside0 (mc_Z w wc g1 g2 g5 r1 r2 r3 r4 o1 o2 o3 o4 r1 r2 r3 r4) := ⟨by have hz := HZc.out; rw [HNX.out] at hz; exact hz⟩
    have HTOLD := Aside0.mk (show meter_Meter_Told.f r1 r2 r3 r4 = some (r1, r2, r3, r4, 0, r1, r2, r3, r4) from rfl)
    have hq : (e3 != e3) = false := bne_self_eq_false e3
    clear HZ4 HZe HZa HZb HZc HUa HUa2 HUb
    go_upto_region 13 with (first
     | ((with_reducible refine gate_dst (N := 58) rfl ?_); refine Kd.R_lit Kd.bool _ 4 ?hg (N := 58) ?hd (xs := ([true] : List Bool)) (inner := [.bool true]) (ok := fun _ => True) (okp := fun _ => True) ?hr ?hp (fun _ hk => hk) trivial (Below.refl _ _) (Nat.le_refl _) (by simp) ?_; (case hd => rfl); (case hg => rfl); (case hr => first | (go_simp; done) | (go_simp; rfl)); (case hp => exact (Reps.one (show Kd.M Kd.bool _ _ _ true [.bool true] from rfl) (Reps.none _ _))); intro vt wt ho hb hg_ hnew_; clear hg_ hnew_; obtain ⟨Qt, qt, rfl⟩ := Kd.R_slice ho; have HVt := Aside0.mk ho; have HZt := Aside0.mk (HZf.out.below hb); clear ho hb)
     | ((with_reducible refine gate_dst (N := 59) rfl ?_); refine Kd.R_lit Kd.bool _ 4 ?hg (N := 59) ?hd (xs := ([false] : List Bool)) (inner := [.bool false]) (ok := fun _ => True) (okp := fun _ => True) ?hr ?hp (fun _ hk => hk) trivial (Below.refl _ _) (Nat.le_refl _) (by simp) ?_; (case hd => rfl); (case hg => rfl); (case hr => first | (go_simp; done) | (go_simp; rfl)); (case hp => exact (Reps.one (show Kd.M Kd.bool _ _ _ false [.bool false] from rfl) (Reps.none _ _))); intro vf wf ho hb hg_ hnew_; clear hg_ hnew_; obtain ⟨Qf, qf, rfl⟩ := Kd.R_slice ho; have HVf := Aside0.mk ho; have HVu := Aside0.mk (Kd.R_below HVt.out hb); have HZg := Aside0.mk (HZt.out.below hb); clear ho hb)
     | (go_at_call 41; refine (mtr_Count.calls k g2 o1 o2 o3 o4 Qt qt [true] Qf qf [false] z1 z2 z3 w _ HZg.out.i2 HZg.out.hB (Kd.R_reads' HVu.out).2.2 (Kd.R_reads' HVu.out).2.1 (Kd.R_reads' HVf.out).2.2 (Kd.R_reads' HVf.out).2.1 HZ_.out).mono ?_; rintro e wh ⟨rfl, hI, hB, hk⟩; have HZh := Aside0.mk (HZg.out.keep2 hI hB hk); clear hI hB hk)
     | (go_at_call 42; (with_reducible refine (meter_Meter_Told.calls g1 r1 r2 r3 r4 r1 r2 r3 r4 0 r1 r2 r3 r4 w _ HZh.out.i1 HZh.out.hB HTOLD.out).mono ?_); rintro e wi ⟨rfl, hI, hB, hk⟩; have HZi := Aside0.mk (HZh.out.keep1 hI hB hk); clear hI hB hk)
     | ((with_reducible refine gate_dst (N := 8) rfl ?_); refine box_event ?hg (N := 8) ?hd (cs := #[.int .i64 0, .int .i64 0, .int .i64 0, .int .i64 0]) (t := 63) ?hr ?_; (case hd => rfl); (case hg => rfl); (case hr => first | (go_simp; done) | (go_simp; rfl)); intro g8 hg8 wj hbox hb; have BX := Aside0.mk hbox; have G8 := Aside0.mk hg8; have HBj := Aside0.mk hb; clear hbox hg8 hb; have hcz0 : wj.cell? ⟨g8, 0, none⟩ = some (.int .i64 0) := (blk_cell BX.out 0).trans rfl; have hcz1 : wj.cell? ⟨g8, 1, none⟩ = some (.int .i64 0) := (blk_cell BX.out 1).trans rfl; have hcz2 : wj.cell? ⟨g8, 2, none⟩ = some (.int .i64 0) := (blk_cell BX.out 2).trans rfl; have hcz3 : wj.cell? ⟨g8, 3, none⟩ = some (.int .i64 0) := (blk_cell BX.out 3).trans rfl; have hfz0 := blk_frozen BX.out 0; have hfz1 := blk_frozen BX.out 1; have hfz2 := blk_frozen BX.out 2; have hfz3 := blk_frozen BX.out 3))
    have hle : wi.heap.size ≤ g8 := Nat.le_of_eq G8.out.symm
    have HZk := Aside0.mk (HZi.out.below (below_set (g := g8) (j := 3) (v := .int .i64 r4) (below_set (g := g8) (j := 2) (v := .int .i64 r3) (below_set (g := g8) (j := 1) (v := .int .i64 r2) (below_set (g := g8) (j := 0) (v := .int .i64 r1) HBj.out hle) hle) hle) hle))
    have BK := Aside0.mk (blk_put (cs := #[.int .i64 r1, .int .i64 r2, .int .i64 r3, .int .i64 0]) (cs' := #[.int .i64 r1, .int .i64 r2, .int .i64 r3, .int .i64 r4]) (blk_put (cs := #[.int .i64 r1, .int .i64 r2, .int .i64 0, .int .i64 0]) (blk_put (cs := #[.int .i64 r1, .int .i64 0, .int .i64 0, .int .i64 0]) (blk_put BX.out 0 (.int .i64 r1) rfl) 1 (.int .i64 r2) rfl) 2 (.int .i64 r3) rfl) 3 (.int .i64 r4) rfl)
    have HNE := Aside0.mk (show g8 ≠ g1 from by have := blk_lt HZi.out.b1; have := G8.out; omega)
    clear hcz0 hcz1 hcz2 hcz3 hfz0 hfz1 hfz2 hfz3 hle BX HBj HZf HZt HZg HZh HZi G8
    generalize ((((wj.setCell ⟨g8, 0, none⟩ (.int .i64 r1)).setCell ⟨g8, 1, none⟩ (.int .i64 r2)).setCell ⟨g8, 2, none⟩ (.int .i64 r3)).setCell ⟨g8, 3, none⟩ (.int .i64 r4)) = wk at *
    have hx2 := mc_kept HX2.out HZk.out.hB
    go_upto_region 14 with (first
     | (go_at_call 43; (with_reducible refine (meter_Meter_Within.calls g1 r1 r2 r3 r4 x.f2 a1 a2 r1 r2 r3 r4 w _ HZk.out.i1 HZk.out.hB HW1.out).mono ?_); rintro e wl ⟨rfl, hI, hB, hk⟩; have HZl := Aside0.mk (HZk.out.keep1 hI hB hk); have BKl := Aside0.mk (hk.blk BK.out HNE.out (by simp)); clear hI hB hk))
    clear hx2 HZk BK
    have HZm := Aside0.mk (HZl.out.below (below_drew (Below.refl _ _)))
    have BKm := Aside0.mk (blk_drew BKl.out)
    have HT := Aside0.mk (show wl.drew.cell? ⟨g5, 0, none⟩ = some (.int .i64 r1) ∧ wl.drew.cell? ⟨g5, 1, none⟩ = some (.int .i64 r2) ∧ wl.drew.cell? ⟨g5, 2, none⟩ = some (.int .i64 r3) ∧ wl.drew.cell? ⟨g5, 3, none⟩ = some (.int .i64 r4) from ⟨(blk_cell HZm.out.b5 0).trans rfl, (blk_cell HZm.out.b5 1).trans rfl, (blk_cell HZm.out.b5 2).trans rfl, (blk_cell HZm.out.b5 3).trans rfl⟩)
    refine start_ (n := 12) (S := fun w' => w'.cell? ⟨g5, 0, none⟩ = some (.int .i64 r1) ∧ w'.cell? ⟨g5, 1, none⟩ = some (.int .i64 r2) ∧ w'.cell? ⟨g5, 2, none⟩ = some (.int .i64 r3) ∧ w'.cell? ⟨g5, 3, none⟩ = some (.int .i64 r4) ∧ w'.cell? ⟨(ad.add (i * 3)).block, (ad.add (i * 3)).off + 2, none⟩ = some (.int .i64 x.f2)) (ds := [6]) #[false, false, false, false, false, false, false, false, false, false, false, false] (by kernel_rfl) rfl rfl ⟨HT.out.1, HT.out.2.1, HT.out.2.2.1, HT.out.2.2.2, mc_kept HX2.out HZm.out.hB⟩ (fun hHeld => ?_)
    refine pure_ (i := 1) (N := some 78) (v := ?_) (a' := ?_) #[false, true, false, false, false, false, false, false, false, false, false, false] rfl rfl (by kernel_rfl) (fun _ _ _ h => h) (Or.inl ⟨by rfl, ?_⟩) ?_ ?_
    rotate_left
    ·intro w'
     go_simp
     with_reducible rfl
    rotate_left
    ·simp only [Act.put, List.setIfInBounds_toArray, List.set_cons_zero, List.set_cons_succ, i64_w, i32_w]
     rfl
    refine pure_ (i := 2) (N := some 79) (v := ?_) (a' := ?_) #[false, true, true, false, false, false, false, false, false, false, false, false] rfl rfl (by kernel_rfl) (fun _ _ _ h => h) (Or.inl ⟨by rfl, ?_⟩) ?_ ?_
    rotate_left
    ·intro w'
     go_simp
     with_reducible rfl
    rotate_left
    ·simp only [Act.put, List.setIfInBounds_toArray, List.set_cons_zero, List.set_cons_succ, i64_w, i32_w]
     rfl
    refine pure_ (i := 3) (N := some 80) (v := ?_) (a' := ?_) #[false, true, true, true, false, false, false, false, false, false, false, false] rfl rfl (by kernel_rfl) (fun _ _ _ h => h) (Or.inl ⟨by rfl, ?_⟩) ?_ ?_
    rotate_left
    ·intro w'
     go_simp
     with_reducible rfl
    rotate_left
    ·simp only [Act.put, List.setIfInBounds_toArray, List.set_cons_zero, List.set_cons_succ, i64_w, i32_w]
     rfl
    refine pure_ (i := 4) (N := some 81) (v := ?_) (a' := ?_) #[false, true, true, true, true, false, false, false, false, false, false, false] rfl rfl (by kernel_rfl) (fun _ _ _ h => h) (Or.inl ⟨by rfl, ?_⟩) ?_ ?_
    rotate_left
    ·intro w'
     go_simp
     with_reducible rfl
    rotate_left
    ·simp only [Act.put, List.setIfInBounds_toArray, List.set_cons_zero, List.set_cons_succ, i64_w, i32_w]
     rfl
    refine take_ (i := 0) (N := some 77) (v := ?_) (a' := ?_) #[true, true, true, true, true, false, false, false, false, false, false, false] rfl rfl (by kernel_rfl) (fun _ _ _ h => h) (Or.inl ⟨by rfl, ?_⟩) hHeld ?_ ?_
    rotate_left
    ·rintro w' ⟨s0, s1, s2, s3, s4⟩
     go_simp
     with_reducible rfl
    rotate_left
    ·simp only [Act.put, List.setIfInBounds_toArray, List.set_cons_zero, List.set_cons_succ, i64_w, i32_w]
     rfl
    refine take_ (i := 5) (N := some 82) (v := ?_) (a' := ?_) #[true, true, true, true, true, true, false, false, false, false, false, false] rfl rfl (by kernel_rfl) (fun _ _ _ h => h) (Or.inl ⟨by rfl, ?_⟩) hHeld ?_ ?_
    rotate_left
    ·rintro w' ⟨s0, s1, s2, s3, s4⟩
     go_simp
     with_reducible rfl
    rotate_left
    ·simp only [Act.put, List.setIfInBounds_toArray, List.set_cons_zero, List.set_cons_succ, i64_w, i32_w]
     rfl
    refine last_ (i := 6) (N := some 83) #[true, true, true, true, true, true, true, false, false, false, false, false] rfl rfl (by kernel_rfl) (by decide) (fun K hK => ?_)
    refine goes_ Try.func44 (by kernel_rfl) rfl #[.agg #[.int .i64 r1, .int .i64 r2, .int .i64 r3, .int .i64 r4], .int .i64 x.f2] (by rfl) rfl rfl (by simp only [List.map_toArray, List.map_cons, List.map_nil]; rfl) ?_
    with_reducible refine (foghornref30_Within.calls r1 r2 r3 r4 x.f2 a1 a2 _ HW2.out).mono ?_
    rintro e wn ⟨rfl, hb⟩
    refine ⟨_, rfl, ?_⟩
    have HZn := Aside0.mk (HZm.out.below hb)
    have BKn := Aside0.mk (blk_below BKm.out hb)
    clear hb
    refine hK.out _ _ ?_
    clear hK K
    refine norm_ (a' := ?_) ?_ ?_
    rotate_left
    ·show Act.put _ (some 83) _ = _
     simp only [Act.put, List.setIfInBounds_toArray, List.set_cons_zero, List.set_cons_succ, i64_w, i32_w]
     rfl
    refine pure_ (i := 7) (N := some 76) (v := ?_) (a' := ?_) #[true, true, true, true, true, true, true, true, false, false, false, false] rfl rfl (by kernel_rfl) (fun _ _ _ h => h) (Or.inl ⟨by rfl, ?_⟩) ?_ ?_
    rotate_left
    ·intro w'
     go_simp
     with_reducible rfl
    rotate_left
    ·simp only [Act.put, List.setIfInBounds_toArray, List.set_cons_zero, List.set_cons_succ, i64_w, i32_w]
     rfl
    refine pure_ (i := 8) (N := some 84) (v := ?_) (a' := ?_) #[true, true, true, true, true, true, true, true, true, false, false, false] rfl rfl (by kernel_rfl) (fun _ _ _ h => h) (Or.inl ⟨by rfl, ?_⟩) ?_ ?_
    rotate_left
    ·intro w'
     go_simp
     with_reducible rfl
    rotate_left
    ·simp only [Act.put, List.setIfInBounds_toArray, List.set_cons_zero, List.set_cons_succ, i64_w, i32_w]
     rfl
    refine pure_ (i := 9) (N := some 85) (v := ?_) (a' := ?_) #[true, true, true, true, true, true, true, true, true, true, false, false] rfl rfl (by kernel_rfl) (fun _ _ _ h => h) (Or.inl ⟨by rfl, ?_⟩) ?_ ?_
    rotate_left
    ·intro w'
     go_simp
     with_reducible rfl
    rotate_left
    ·simp only [Act.put, List.setIfInBounds_toArray, List.set_cons_zero, List.set_cons_succ, i64_w, i32_w]
     rfl
    refine pure_ (i := 10) (N := some 12) (v := ?_) (a' := ?_) #[true, true, true, true, true, true, true, true, true, true, true, false] rfl rfl (by kernel_rfl) (fun _ _ _ h => h) (Or.inl ⟨by rfl, ?_⟩) ?_ ?_
    rotate_left
    ·intro w'
     go_simp
     with_reducible rfl
    rotate_left
    ·simp only [Act.put, List.setIfInBounds_toArray, List.set_cons_zero, List.set_cons_succ, i64_w, i32_w]
     rfl
    refine pure_ (i := 11) (N := some 13) (v := ?_) (a' := ?_) #[true, true, true, true, true, true, true, true, true, true, true, true] rfl rfl (by kernel_rfl) (fun _ _ _ h => h) (Or.inl ⟨by rfl, ?_⟩) ?_ ?_
    rotate_left
    ·intro w'
     go_simp
     with_reducible rfl
    rotate_left
    ·simp only [Act.put, List.setIfInBounds_toArray, List.set_cons_zero, List.set_cons_succ, i64_w, i32_w]
     rfl
    refine done_ (by kernel_rfl) ?_
    have ha0 : wn.cell? ⟨g8, 0, none⟩ = some (.int .i64 r1) := (blk_cell BKn.out 0).trans rfl
    have ha1 : wn.cell? ⟨g8, 1, none⟩ = some (.int .i64 r2) := (blk_cell BKn.out 1).trans rfl
    have ha2 : wn.cell? ⟨g8, 2, none⟩ = some (.int .i64 r3) := (blk_cell BKn.out 2).trans rfl
    have ha3 : wn.cell? ⟨g8, 3, none⟩ = some (.int .i64 r4) := (blk_cell BKn.out 3).trans rfl
    have hb0 : wn.cell? ⟨g5, 0, none⟩ = some (.int .i64 r1) := (blk_cell HZn.out.b5 0).trans rfl
    have hb1 : wn.cell? ⟨g5, 1, none⟩ = some (.int .i64 r2) := (blk_cell HZn.out.b5 1).trans rfl
    have hb2 : wn.cell? ⟨g5, 2, none⟩ = some (.int .i64 r3) := (blk_cell HZn.out.b5 2).trans rfl
    have hb3 : wn.cell? ⟨g5, 3, none⟩ = some (.int .i64 r4) := (blk_cell HZn.out.b5 3).trans rfl
    have hq1 : (r1 != r1) = false := bne_self_eq_false r1
    have hq2 : (r2 != r2) = false := bne_self_eq_false r2
    have hq3 : (r3 != r3) = false := bne_self_eq_false r3
    have hq4 : (r4 != r4) = false := bne_self_eq_false r4
    have hq5 : (a1 != a1) = false := bne_self_eq_false a1
    have hq6 : (a2 != a2) = false := bne_self_eq_false a2
    clear HZl BKl HZm BKm HT
    go_wp2
    go_roundg k1
    case measure => omega
    case rel => exact ⟨i + 1, r1, r2, r3, r4, _, _, _, _, (by first | rfl | exact congrArg (fun y => Value.int .i64 y) (show wrap64 ((i : Int) + 1) = ((i + 1 : Nat) : Int) from by have := HI40.out; unfold wrap64; omega)), ⟨by have := HK.out; have := HIL.out; omega, HIL.out, HI40.out⟩, ⟨by rw [show 40 - (i + 1) = 39 - i by omega]; exact HRN.out⟩, HZn⟩
   ·have hg1 : decide (i < 40) = false := decide_eq_false h40
    have hg2 : decide ((i : Int) < 40) = false := decide_eq_false (by omega)
    have HAW : Aside0 (foghornlaw30_awake.f k = some true) := ⟨by
     have hrn := HRUN.out
     rw [List.drop_eq_getElem_cons hi, show 40 - i = 0 by omega, mc_run] at hrn
     exact hrn⟩
    clear hi h40
    go_wp2_with (first
     | (go_at_call 38; (with_reducible refine (foghornlaw30_awake.calls k true _ HAW.out).mono ?_); rintro e wq ⟨rfl, hb⟩; have HQ := Aside0.mk (below_step HZ.out.hB hb); clear hb))
    go_ret
    exact ⟨(by first | rfl | (simp [go_sem]; done)), HQ.out⟩
  ·have hlt : decide (i < l0.length) = false := decide_eq_false hi
   have hlt' : decide ((i : Int) < (l0.length : Int)) = false := decide_eq_false (by omega)
   have HAW : Aside0 (foghornlaw30_awake.f k = some true) := ⟨by
    have hrn := HRUN.out
    rw [List.drop_eq_nil_of_le (by omega), mc_run] at hrn
    exact hrn⟩
   clear hi
   go_wp2_with (first
    | (go_at_call 38; (with_reducible refine (foghornlaw30_awake.calls k true _ HAW.out).mono ?_); rintro e wq ⟨rfl, hb⟩; have HQ := Aside0.mk (below_step HZ.out.hB hb); clear hb))
   go_ret
   exact ⟨(by first | rfl | (simp [go_sem]; done)), HQ.out⟩
theorem foghornlaw30_MeterCounts.calls (k : Nat) (A0 : Option Addr) (c0 : Nat) (l0 : List S61) (r : Bool) (w : World) (hr0 : Kd.C k61 w A0 l0.length l0) (hc0 : l0.length ≤ c0) (h : foghornlaw30_MeterCounts.f k l0 = some r) (hq_ : r = true) :
  Calls Try.prog 6 #[.slice A0 l0.length c0] w fun e w' => e = .returned (.bool r) ∧ Below w.heap.size w w' := by
 subst hq_
 unfold foghornlaw30_MeterCounts.f at h
 obtain ⟨⟨z1, z2, z3⟩, hz, h⟩ := Option.bind_eq_some_iff.1 h
 exact mc_go k A0 c0 l0 w hr0 hc0 z1 z2 z3 hz h
theorem foghornlaw30_MeterCounts.walk (P : foghornlaw30_MeterCounts.Pure) (A0 : Option Addr) (c0 : Nat) (l0 : List (S61)) (w : World) (hr0 : Kd.C k61 w A0 l0.length l0) (hc0 : l0.length ≤ c0) (hw0 : l0.length * 56 ≤ 140737488351232 ∧ ∀ x ∈ l0, (fun y_ : S61 => (y_.f0.length * 1 ≤ 140737488351232 ∧ ∀ x ∈ y_.f0, (fun y_ : Bool => True) x) ∧ (y_.f1.length * 1 ≤ 140737488351232 ∧ ∀ x ∈ y_.f1, (fun y_ : Bool => True) x) ∧ ((Lit.int .i64 y_.f2).wf = true)) x) :
  Calls Try.prog 6 #[.slice A0 l0.length c0] w fun e w' => e = .returned (.bool true) ∧ Below w.heap.size w w' := by
 obtain ⟨k, h⟩ := P l0 hw0
 refine (foghornlaw30_MeterCounts.calls k _ _ l0 true w hr0 hc0 h rfl).mono ?_
 rintro e w' ⟨rfl, hd⟩
 exact ⟨rfl, hd⟩

/-! ### grid_may: function 158 -/
set_option maxHeartbeats 8000000 in
set_option maxRecDepth 100000 in
theorem grid_may.calls (a0_0 : (Nat × Nat)) (a0_1 : Bool) (r : Bool) (w : World) (h : grid_may.f a0_0 a0_1 = some r) :
  Calls Try.prog 158 #[.agg #[.complex .f64 a0_0.1 a0_0.2, .bool a0_1]] w fun e w' => e = .returned (.bool r) ∧ Below w.heap.size w w' := by
 have hu101 := Try.underlying101
 have HB := Aside0.mk (Below.refl w.heap.size w)
 have H : (if a0_1 = true then (some ((FloatKind.f64.format.order a0_0.1 0 == some .eq) && (FloatKind.f64.format.order a0_0.2 0 == some .eq))) else ((grid_On.f a0_0.1).bind fun t633 => (if t633 = true then ((grid_On.f a0_0.2).bind fun t634 => (some t634)) else (some false)))) = some r := h
 clear h
 by_cases c2 : a0_1 = true
 ·subst c2
  have H1 : (some ((FloatKind.f64.format.order a0_0.1 0 == some .eq) && (FloatKind.f64.format.order a0_0.2 0 == some .eq))) = some r := by rw [if_pos rfl] at H; exact H
  clear H
  have H := H1
  clear H1
  obtain rfl := Option.some.inj H
  go_enter Try.func158, Try.ntmps158
  go_wp2_with (first | ((with_reducible refine gate_dst (N := 1) rfl ?_); (try (refine gate_guard (by rfl) ?_; dsimp only)); refine box_event ?hg (N := 1) ?hd (cs := #[.complex .f64 a0_0.1 a0_0.2, .bool true]) (t := 101) ?hr ?_; (case hd => rfl); (case hg => rfl); (case hr => first | (go_simp; done) | (go_simp; rfl)); intro gb632 hg w3 hbox hb; have n0_ := Aside0.mk (below_step (by repeat (first | (with_reducible first | exact HB.out | apply below_alloc | apply pw_below_drewN | apply below_drew1) | exact HB.out)) hb); have n1_ := Aside0.mk (hbox); have n2_ := Aside0.mk ((by rw [hg]; exact (below_size (by repeat (first | (with_reducible first | exact HB.out | apply below_alloc | apply pw_below_drewN | apply below_drew1) | exact HB.out))) : w.heap.size ≤ gb632)); have n3_ := Aside0.mk ((by rw [hg]; exact (below_size (by repeat (first | (with_reducible first | exact HB.out | apply below_alloc | apply pw_below_drewN | apply below_drew1) | exact HB.out))) : w.heap.size ≤ gb632)); clear HB; have HB := n0_; have BK632 := n1_; have GW632 := n2_; have GE632 := n3_; clear n0_ n1_ n2_ n3_; clear hb hbox hg; have hcz4_0 : w3.cell? ⟨gb632, 0, none⟩ = some (.complex .f64 a0_0.1 a0_0.2) := (blk_cell BK632.out 0).trans rfl; have hcz4_1 : w3.cell? ⟨gb632, 1, none⟩ = some (.bool true) := (blk_cell BK632.out 1).trans rfl; have hfz4_0 := blk_frozen BK632.out 0; have hfz4_1 := blk_frozen BK632.out 1))
  go_ret
  exact ⟨by first | rfl | (simp [errW_none, errW_some] <;> rfl) | (simp [*, errW_none, errW_some] <;> rfl), by repeat (first | (with_reducible first | exact HB.out | apply below_alloc | apply pw_below_drewN | apply below_drew1 | refine below_set ?_ GE632.out) | exact HB.out)⟩
 ·replace c2 := Bool.eq_false_iff.mpr c2
  subst c2
  have H1 : ((grid_On.f a0_0.1).bind fun t633 => (if t633 = true then ((grid_On.f a0_0.2).bind fun t634 => (some t634)) else (some false))) = some r := by rw [if_neg (show ¬ (false = true) by decide)] at H; exact H
  clear H
  have H := H1
  clear H1
  replace H := Option.bind_eq_some_iff.mp H
  obtain ⟨t633, A50, H⟩ := H
  replace H : (if t633 = true then ((grid_On.f a0_0.2).bind fun t634 => (some t634)) else (some false)) = some r := H
  have A5 := Aside0.mk A50
  clear A50
  by_cases c6 : t633 = true
  ·subst c6
   have H1 : ((grid_On.f a0_0.2).bind fun t634 => (some t634)) = some r := by rw [if_pos rfl] at H; exact H
   clear H
   have H := H1
   clear H1
   replace H := Option.bind_eq_some_iff.mp H
   obtain ⟨t634, A70, H⟩ := H
   replace H : (some t634) = some r := H
   have A7 := Aside0.mk A70
   clear A70
   obtain rfl := Option.some.inj H
   go_enter Try.func158, Try.ntmps158
   go_wp2_with (first | ((with_reducible refine gate_dst (N := 1) rfl ?_); (try (refine gate_guard (by rfl) ?_; dsimp only)); refine box_event ?hg (N := 1) ?hd (cs := #[.complex .f64 a0_0.1 a0_0.2, .bool false]) (t := 101) ?hr ?_; (case hd => rfl); (case hg => rfl); (case hr => first | (go_simp; done) | (go_simp; rfl)); intro gb632 hg w8 hbox hb; have n0_ := Aside0.mk (below_step (by repeat (first | (with_reducible first | exact HB.out | apply below_alloc | apply pw_below_drewN | apply below_drew1) | exact HB.out)) hb); have n1_ := Aside0.mk (hbox); have n2_ := Aside0.mk ((by rw [hg]; exact (below_size (by repeat (first | (with_reducible first | exact HB.out | apply below_alloc | apply pw_below_drewN | apply below_drew1) | exact HB.out))) : w.heap.size ≤ gb632)); have n3_ := Aside0.mk ((by rw [hg]; exact (below_size (by repeat (first | (with_reducible first | exact HB.out | apply below_alloc | apply pw_below_drewN | apply below_drew1) | exact HB.out))) : w.heap.size ≤ gb632)); clear HB; have HB := n0_; have BK632 := n1_; have GW632 := n2_; have GE632 := n3_; clear n0_ n1_ n2_ n3_; clear hb hbox hg; have hcz9_0 : w8.cell? ⟨gb632, 0, none⟩ = some (.complex .f64 a0_0.1 a0_0.2) := (blk_cell BK632.out 0).trans rfl; have hcz9_1 : w8.cell? ⟨gb632, 1, none⟩ = some (.bool false) := (blk_cell BK632.out 1).trans rfl; have hfz9_0 := blk_frozen BK632.out 0; have hfz9_1 := blk_frozen BK632.out 1) | ((with_reducible refine gate_callee (f := 106) rfl ?_); refine goesL_ (some 11) rfl rfl Try.func106 (by kernel_rfl) rfl #[.float .f64 a0_0.1] rfl (by (try simp only [List.map_toArray, List.map_cons, List.map_nil]); first | done | rfl | (simp only [List.length_drop, List.length_take]; rfl)) ?_; (with_reducible refine (grid_On.calls a0_0.1 true _ A5.out).mono ?_); rintro e w' ⟨rfl, ⟨nd, rfl⟩⟩; refine ⟨_, rfl, ?_⟩) | (go_at_call 106; (with_reducible refine (grid_On.calls a0_0.2 t634 _ A7.out).mono ?_); rintro e w' ⟨rfl, ⟨nd, rfl⟩⟩))
   go_ret
   exact ⟨by first | rfl | (simp [errW_none, errW_some] <;> rfl) | (simp [*, errW_none, errW_some] <;> rfl), by repeat (first | (with_reducible first | exact HB.out | apply below_alloc | apply pw_below_drewN | apply below_drew1 | refine below_set ?_ GE632.out) | exact HB.out)⟩
  ·replace c6 := Bool.eq_false_iff.mpr c6
   subst c6
   have H1 : (some false) = some r := by rw [if_neg (show ¬ (false = true) by decide)] at H; exact H
   clear H
   have H := H1
   clear H1
   obtain rfl := Option.some.inj H
   go_enter Try.func158, Try.ntmps158
   go_wp2_with (first | ((with_reducible refine gate_dst (N := 1) rfl ?_); (try (refine gate_guard (by rfl) ?_; dsimp only)); refine box_event ?hg (N := 1) ?hd (cs := #[.complex .f64 a0_0.1 a0_0.2, .bool false]) (t := 101) ?hr ?_; (case hd => rfl); (case hg => rfl); (case hr => first | (go_simp; done) | (go_simp; rfl)); intro gb632 hg w10 hbox hb; have n0_ := Aside0.mk (below_step (by repeat (first | (with_reducible first | exact HB.out | apply below_alloc | apply pw_below_drewN | apply below_drew1) | exact HB.out)) hb); have n1_ := Aside0.mk (hbox); have n2_ := Aside0.mk ((by rw [hg]; exact (below_size (by repeat (first | (with_reducible first | exact HB.out | apply below_alloc | apply pw_below_drewN | apply below_drew1) | exact HB.out))) : w.heap.size ≤ gb632)); have n3_ := Aside0.mk ((by rw [hg]; exact (below_size (by repeat (first | (with_reducible first | exact HB.out | apply below_alloc | apply pw_below_drewN | apply below_drew1) | exact HB.out))) : w.heap.size ≤ gb632)); clear HB; have HB := n0_; have BK632 := n1_; have GW632 := n2_; have GE632 := n3_; clear n0_ n1_ n2_ n3_; clear hb hbox hg; have hcz11_0 : w10.cell? ⟨gb632, 0, none⟩ = some (.complex .f64 a0_0.1 a0_0.2) := (blk_cell BK632.out 0).trans rfl; have hcz11_1 : w10.cell? ⟨gb632, 1, none⟩ = some (.bool false) := (blk_cell BK632.out 1).trans rfl; have hfz11_0 := blk_frozen BK632.out 0; have hfz11_1 := blk_frozen BK632.out 1) | ((with_reducible refine gate_callee (f := 106) rfl ?_); refine goesL_ (some 11) rfl rfl Try.func106 (by kernel_rfl) rfl #[.float .f64 a0_0.1] rfl (by (try simp only [List.map_toArray, List.map_cons, List.map_nil]); first | done | rfl | (simp only [List.length_drop, List.length_take]; rfl)) ?_; (with_reducible refine (grid_On.calls a0_0.1 false _ A5.out).mono ?_); rintro e w' ⟨rfl, ⟨nd, rfl⟩⟩; refine ⟨_, rfl, ?_⟩))
   go_ret
   exact ⟨by first | rfl | (simp [errW_none, errW_some] <;> rfl) | (simp [*, errW_none, errW_some] <;> rfl), by repeat (first | (with_reducible first | exact HB.out | apply below_alloc | apply pw_below_drewN | apply below_drew1 | refine below_set ?_ GE632.out) | exact HB.out)⟩

/-! ### grid_Check: function 129 -/
set_option maxHeartbeats 8000000 in
set_option maxRecDepth 100000 in
theorem grid_Check.calls (k : Nat) (A0 : Option Addr) (c0 : Nat) (l0 : List (S101)) (r1 : Int) (r2 : Int) (w : World) (hr0 : Kd.C k101 w A0 l0.length l0) (hc0 : l0.length ≤ c0) (h : grid_Check.f k l0 = some (r1, r2)) :
  Calls Try.prog 129 #[.slice A0 l0.length c0] w fun e w' => e = .returned (.tuple #[.int .i64 r1, .int .i64 r2]) ∧ Below w.heap.size w w' := by
 have hu101 := Try.underlying101
 have HR0 := Aside0.mk hr0
 have HC0 := Aside0.mk hc0
 clear hr0 hc0
 have HB := Aside0.mk (Below.refl w.heap.size w)
 have H : (if (l0.length : Int) > 65536 then (some (0, 1)) else (grid_Check.l0 k l0 (l0.length : Int) 0)) = some (r1, r2) := h
 clear h
 by_cases c2 : (l0.length : Int) > 65536
 ·rw [if_pos c2] at H
  have c2b0 : decide (65536 < (l0.length : Int)) = true := decide_eq_true c2
  have c2b1 : decide (65536 < l0.length) = true := decide_eq_true (by omega)
  clear c2
  simp only [Option.some.injEq, Prod.mk.injEq] at H
  obtain ⟨rfl, rfl⟩ := H
  go_enter Try.func129, Try.ntmps129
  go_wp2
  go_ret2
  exact ⟨by first | rfl | (simp [errW_none, errW_some] <;> rfl) | (simp [*, errW_none, errW_some] <;> rfl), by repeat (first | (with_reducible first | exact HB.out | apply below_alloc | apply pw_below_drewN | apply below_drew1) | exact HB.out)⟩
 ·rw [if_neg c2] at H
  have c2b0 : decide (65536 < (l0.length : Int)) = false := decide_eq_false c2
  have c2b1 : decide (65536 < l0.length) = false := decide_eq_false (by omega)
  clear c2
  have H' := Aside0.mk H
  clear H
  go_enter Try.func129, Try.ntmps129
  go_wp2
  go_loopg [11] k (fun kq v11 w' => ∃ (x11_1 : Int), v11 = .int .i64 x11_1 ∧ Aside0 (grid_Check.l0 kq l0 (l0.length : Int) x11_1 = some (r1, r2)) ∧ Aside0 (kq ≤ k) ∧ Aside0 (Below w.heap.size w w'))
  case atStart => exact ⟨(0), (by first | rfl | (simp; done) | (simp [*]; done)), H', ⟨Nat.le_refl _⟩, ⟨by repeat (first | (with_reducible first | exact HB.out | apply below_alloc | apply pw_below_drewN | apply below_drew1) | exact HB.out)⟩⟩
  case round =>
   clear H'
   try clear c1
   try clear c2
   try clear c2b0
   try clear c2b1
   try clear p2
   obtain ⟨x11_1, rfl, HA, HK1, HB⟩ := hrel
   cases gk with
   | zero => exact absurd HA.out (by simp [grid_Check.l0])
   | succ k1 =>
    have H := HA.out
    clear HA
    simp only [grid_Check.l0] at H
    by_cases c3 : x11_1 < (l0.length : Int)
    ·rw [if_pos c3] at H
     have c3b0 : decide (x11_1 < (l0.length : Int)) = true := decide_eq_true c3
     clear c3
     by_cases c4 : 0 ≤ x11_1
     ·rw [if_pos c4] at H
      have c4b0 : decide (0 ≤ x11_1) = true := decide_eq_true c4
      clear c4
      by_cases c5 : x11_1 < (l0.length : Int)
      ·rw [if_pos c5] at H
       have c5b0 : decide (x11_1 < (l0.length : Int)) = true := decide_eq_true c5
       clear c5
       replace H := Option.bind_eq_some_iff.mp H
       obtain ⟨t637, A60, H⟩ := H
       replace H : (if t637 = true then (grid_Check.l0 k1 l0 (l0.length : Int) (wrap64 (x11_1 + 1))) else (some (x11_1, 7))) = some (r1, r2) := H
       have A6 := Aside0.mk A60
       clear A60
       by_cases c7 : t637 = true
       ·subst c7
        have H1 : (grid_Check.l0 k1 l0 (l0.length : Int) (wrap64 (x11_1 + 1))) = some (r1, r2) := by rw [if_pos rfl] at H; exact H
        clear H
        have H := H1
        clear H1
        have H' := Aside0.mk H
        clear H
        have p635 : 0 ≤ (x11_1 : Int) := of_decide_eq_true (by first | (with_reducible assumption) | assumption)
        have q635 : x11_1 < (l0.length : Int) := of_decide_eq_true (by first | (with_reducible assumption) | assumption)
        obtain ⟨ad635, e635, hx635_0, hx635_1⟩ := at_T101 HR0.out x11_1 p635 q635
        cases e635
        replace hx635_0 := (HB.out.cell (World.block_lt_of_cell? w _ hx635_0)).trans hx635_0
        replace hx635_1 := (HB.out.cell (World.block_lt_of_cell? w _ hx635_1)).trans hx635_1
        replace p635 := eq_true p635
        replace q635 := eq_true q635
        go_wp2_with (first | ((with_reducible refine gate_dst (N := 5) rfl ?_); refine box_event ?hg (N := 5) ?hd (cs := #[.complex .f64 0 0, .bool false]) (t := 101) ?hr ?_; (case hd => rfl); (case hg => rfl); (case hr => first | (go_simp; done) | (go_simp; rfl)); intro gb636 hg w8 hbox hb; have n0_ := Aside0.mk (below_step (by repeat (first | (with_reducible first | exact HB.out | apply below_alloc | apply pw_below_drewN | apply below_drew1) | exact HB.out)) hb); have n1_ := Aside0.mk (hbox); have n2_ := Aside0.mk ((by rw [hg]; exact (below_size (by repeat (first | (with_reducible first | exact HB.out | apply below_alloc | apply pw_below_drewN | apply below_drew1) | exact HB.out))) : w.heap.size ≤ gb636)); have n3_ := Aside0.mk ((by rw [hg]; exact (below_size (by repeat (first | (with_reducible first | exact HB.out | apply below_alloc | apply pw_below_drewN | apply below_drew1) | exact HB.out))) : w.heap.size ≤ gb636)); clear HB; have HB := n0_; have BK636 := n1_; have GW636 := n2_; have GE636 := n3_; clear n0_ n1_ n2_ n3_; clear hb hbox hg; have hcz9_0 : w8.cell? ⟨gb636, 0, none⟩ = some (.complex .f64 0 0) := (blk_cell BK636.out 0).trans rfl; have hcz9_1 : w8.cell? ⟨gb636, 1, none⟩ = some (.bool false) := (blk_cell BK636.out 1).trans rfl; have hfz9_0 := blk_frozen BK636.out 0; have hfz9_1 := blk_frozen BK636.out 1) | ((with_reducible refine gate_callee (f := 158) rfl ?_); refine goesL_ (some 17) rfl rfl Try.func158 (by kernel_rfl) rfl #[.agg #[.complex .f64 (((rd_T101 l0 x11_1).f0).1) (((rd_T101 l0 x11_1).f0).2), .bool ((rd_T101 l0 x11_1).f1)]] rfl (by (try simp only [List.map_toArray, List.map_cons, List.map_nil]); first | done | rfl | (simp only [List.length_drop, List.length_take]; rfl)) ?_; (with_reducible refine (grid_may.calls ((rd_T101 l0 x11_1).f0) ((rd_T101 l0 x11_1).f1) true _ A6.out).mono ?_); rintro e w10 ⟨rfl, hb⟩; refine ⟨_, rfl, ?_⟩; have n0_ := Aside0.mk (blk_below (g := gb636) (o := .cells #[.complex .f64 (((rd_T101 l0 x11_1).f0).1) (((rd_T101 l0 x11_1).f0).2), .bool ((rd_T101 l0 x11_1).f1)] 101 (0, 0)) (by (with_reducible repeat (first | refine blk_drewN ?_ _ | refine blk_drew ?_ | refine blk_alloc ?_ _)); refine blk_put (cs := #[.complex .f64 (((rd_T101 l0 x11_1).f0).1) (((rd_T101 l0 x11_1).f0).2), .bool false]) ?_ 1 _ rfl; (with_reducible repeat (first | refine blk_drewN ?_ _ | refine blk_drew ?_ | refine blk_alloc ?_ _)); refine blk_put (cs := #[.complex .f64 0 0, .bool false]) ?_ 0 _ rfl; (with_reducible repeat (first | refine blk_drewN ?_ _ | refine blk_drew ?_ | refine blk_alloc ?_ _)); exact BK636.out) hb); have n1_ := Aside0.mk (below_step (by repeat (first | (with_reducible first | exact HB.out | apply below_alloc | apply pw_below_drewN | apply below_drew1 | refine below_set ?_ GE636.out) | exact HB.out)) hb); clear BK636; clear HB; have BK636 := n0_; have HB := n1_; clear n0_ n1_; (try clear hb); (try clear hb2); (try clear hk); (try clear hi)))
        first | go_roundg k1 | (simp only [add_plain] at *; go_roundg k1)
        case measure => have := HK1.out; omega
        case rel => exact ⟨(wrap64 (x11_1 + 1)), (by first | rfl | (simp; done) | (simp [*]; done)), H', ⟨by have := HK1.out; omega⟩, ⟨by repeat (first | (with_reducible first | exact HB.out | apply below_alloc | apply pw_below_drewN | apply below_drew1 | refine below_set ?_ GE636.out) | exact HB.out)⟩⟩
       ·replace c7 := Bool.eq_false_iff.mpr c7
        subst c7
        have H1 : (some (x11_1, 7)) = some (r1, r2) := by rw [if_neg (show ¬ (false = true) by decide)] at H; exact H
        clear H
        have H := H1
        clear H1
        simp only [Option.some.injEq, Prod.mk.injEq] at H
        obtain ⟨rfl, rfl⟩ := H
        have p635 : 0 ≤ (x11_1 : Int) := of_decide_eq_true (by first | (with_reducible assumption) | assumption)
        have q635 : x11_1 < (l0.length : Int) := of_decide_eq_true (by first | (with_reducible assumption) | assumption)
        obtain ⟨ad635, e635, hx635_0, hx635_1⟩ := at_T101 HR0.out x11_1 p635 q635
        cases e635
        replace hx635_0 := (HB.out.cell (World.block_lt_of_cell? w _ hx635_0)).trans hx635_0
        replace hx635_1 := (HB.out.cell (World.block_lt_of_cell? w _ hx635_1)).trans hx635_1
        replace p635 := eq_true p635
        replace q635 := eq_true q635
        go_wp2_with (first | ((with_reducible refine gate_dst (N := 5) rfl ?_); refine box_event ?hg (N := 5) ?hd (cs := #[.complex .f64 0 0, .bool false]) (t := 101) ?hr ?_; (case hd => rfl); (case hg => rfl); (case hr => first | (go_simp; done) | (go_simp; rfl)); intro gb636 hg w11 hbox hb; have n0_ := Aside0.mk (below_step (by repeat (first | (with_reducible first | exact HB.out | apply below_alloc | apply pw_below_drewN | apply below_drew1) | exact HB.out)) hb); have n1_ := Aside0.mk (hbox); have n2_ := Aside0.mk ((by rw [hg]; exact (below_size (by repeat (first | (with_reducible first | exact HB.out | apply below_alloc | apply pw_below_drewN | apply below_drew1) | exact HB.out))) : w.heap.size ≤ gb636)); have n3_ := Aside0.mk ((by rw [hg]; exact (below_size (by repeat (first | (with_reducible first | exact HB.out | apply below_alloc | apply pw_below_drewN | apply below_drew1) | exact HB.out))) : w.heap.size ≤ gb636)); clear HB; have HB := n0_; have BK636 := n1_; have GW636 := n2_; have GE636 := n3_; clear n0_ n1_ n2_ n3_; clear hb hbox hg; have hcz12_0 : w11.cell? ⟨gb636, 0, none⟩ = some (.complex .f64 0 0) := (blk_cell BK636.out 0).trans rfl; have hcz12_1 : w11.cell? ⟨gb636, 1, none⟩ = some (.bool false) := (blk_cell BK636.out 1).trans rfl; have hfz12_0 := blk_frozen BK636.out 0; have hfz12_1 := blk_frozen BK636.out 1) | ((with_reducible refine gate_callee (f := 158) rfl ?_); refine goesL_ (some 17) rfl rfl Try.func158 (by kernel_rfl) rfl #[.agg #[.complex .f64 (((rd_T101 l0 x11_1).f0).1) (((rd_T101 l0 x11_1).f0).2), .bool ((rd_T101 l0 x11_1).f1)]] rfl (by (try simp only [List.map_toArray, List.map_cons, List.map_nil]); first | done | rfl | (simp only [List.length_drop, List.length_take]; rfl)) ?_; (with_reducible refine (grid_may.calls ((rd_T101 l0 x11_1).f0) ((rd_T101 l0 x11_1).f1) false _ A6.out).mono ?_); rintro e w13 ⟨rfl, hb⟩; refine ⟨_, rfl, ?_⟩; have n0_ := Aside0.mk (blk_below (g := gb636) (o := .cells #[.complex .f64 (((rd_T101 l0 x11_1).f0).1) (((rd_T101 l0 x11_1).f0).2), .bool ((rd_T101 l0 x11_1).f1)] 101 (0, 0)) (by (with_reducible repeat (first | refine blk_drewN ?_ _ | refine blk_drew ?_ | refine blk_alloc ?_ _)); refine blk_put (cs := #[.complex .f64 (((rd_T101 l0 x11_1).f0).1) (((rd_T101 l0 x11_1).f0).2), .bool false]) ?_ 1 _ rfl; (with_reducible repeat (first | refine blk_drewN ?_ _ | refine blk_drew ?_ | refine blk_alloc ?_ _)); refine blk_put (cs := #[.complex .f64 0 0, .bool false]) ?_ 0 _ rfl; (with_reducible repeat (first | refine blk_drewN ?_ _ | refine blk_drew ?_ | refine blk_alloc ?_ _)); exact BK636.out) hb); have n1_ := Aside0.mk (below_step (by repeat (first | (with_reducible first | exact HB.out | apply below_alloc | apply pw_below_drewN | apply below_drew1 | refine below_set ?_ GE636.out) | exact HB.out)) hb); clear BK636; clear HB; have BK636 := n0_; have HB := n1_; clear n0_ n1_; (try clear hb); (try clear hb2); (try clear hk); (try clear hi)))
        go_ret2
        exact ⟨by first | rfl | (simp [errW_none, errW_some] <;> rfl) | (simp [*, errW_none, errW_some] <;> rfl), by repeat (first | (with_reducible first | exact HB.out | apply below_alloc | apply pw_below_drewN | apply below_drew1 | refine below_set ?_ GE636.out) | exact HB.out)⟩
      ·rw [if_neg c5] at H
       exact absurd H (by simp)
     ·rw [if_neg c4] at H
      exact absurd H (by simp)
    ·rw [if_neg c3] at H
     have c3b0 : decide (x11_1 < (l0.length : Int)) = false := decide_eq_false c3
     clear c3
     simp only [Option.some.injEq, Prod.mk.injEq] at H
     obtain ⟨rfl, rfl⟩ := H
     go_wp2
     go_ret2
     exact ⟨by first | rfl | (simp [errW_none, errW_some] <;> rfl) | (simp [*, errW_none, errW_some] <;> rfl), by repeat (first | (with_reducible first | exact HB.out | apply below_alloc | apply pw_below_drewN | apply below_drew1) | exact HB.out)⟩

/-! ### meter_Open: function 59 -/
set_option maxHeartbeats 8000000 in
set_option maxRecDepth 100000 in
theorem meter_Open.calls (k : Nat) (a0 : Int) (A1 : Option Addr) (c1 : Nat) (l1 : List (S101)) (r1 : Nat) (r2 : Int) (r3 : Int) (w : World) (hr1 : Kd.C k101 w A1 l1.length l1) (hc1 : l1.length ≤ c1) (h : meter_Open.f k a0 l1 = some (r1, r2, r3)) :
  Calls Try.prog 59 #[.int .i64 a0, .slice A1 l1.length c1] w fun e w' => e = .returned (.tuple #[.float .f64 r1, .int .i64 r2, .int .i64 r3]) ∧ Below w.heap.size w w' := by
 have hu101 := Try.underlying101
 have HR1 := Aside0.mk hr1
 have HC1 := Aside0.mk hc1
 clear hr1 hc1
 have HB := Aside0.mk (Below.refl w.heap.size w)
 have H : ((points_All.f a0).bind fun bt638 => (if bt638.2 = 0 then ((grid_Check.f k l1).bind fun bt642 => (if bt642.2 = 0 then ((math_Inf.f 1).bind fun t644 => (meter_Open.l0 k t644 (-1) bt638.1 l1 (l1.length : Int) 0)) else (some (0, 0, bt642.2)))) else (some (0, 0, 1)))) = some (r1, r2, r3) := h
 clear h
 replace H := Option.bind_eq_some_iff.mp H
 obtain ⟨⟨t638, t639⟩, A30, H⟩ := H
 replace H : (if t639 = 0 then ((grid_Check.f k l1).bind fun bt642 => (if bt642.2 = 0 then ((math_Inf.f 1).bind fun t644 => (meter_Open.l0 k t644 (-1) t638 l1 (l1.length : Int) 0)) else (some (0, 0, bt642.2)))) else (some (0, 0, 1))) = some (r1, r2, r3) := H
 have A3 := Aside0.mk A30
 clear A30
 by_cases c4 : t639 = 0
 ·rw [if_pos c4] at H
  have c4b0 : (t639 == 0) = true := beq_iff_eq.mpr c4
  have c4b1 : (t639 != 0) = false := bne_eq_false_iff_eq.mpr c4
  clear c4
  replace H := Option.bind_eq_some_iff.mp H
  obtain ⟨⟨t642, t643⟩, A50, H⟩ := H
  replace H : (if t643 = 0 then ((math_Inf.f 1).bind fun t644 => (meter_Open.l0 k t644 (-1) t638 l1 (l1.length : Int) 0)) else (some (0, 0, t643))) = some (r1, r2, r3) := H
  have A5 := Aside0.mk A50
  clear A50
  by_cases c6 : t643 = 0
  ·rw [if_pos c6] at H
   have c6b0 : (t643 == 0) = true := beq_iff_eq.mpr c6
   have c6b1 : (t643 != 0) = false := bne_eq_false_iff_eq.mpr c6
   clear c6
   replace H := Option.bind_eq_some_iff.mp H
   obtain ⟨t644, A70, H⟩ := H
   replace H : (meter_Open.l0 k t644 (-1) t638 l1 (l1.length : Int) 0) = some (r1, r2, r3) := H
   have A7 := Aside0.mk A70
   clear A70
   have H' := Aside0.mk H
   clear H
   go_enter Try.func59, Try.ntmps59
   go_wp2_with (first | ((with_reducible refine gate_callee (f := 56) rfl ?_); refine goesL_ (some 17) rfl rfl Try.func56 (by kernel_rfl) rfl #[.int .i64 a0] rfl (by (try simp only [List.map_toArray, List.map_cons, List.map_nil]); first | done | rfl | (simp only [List.length_drop, List.length_take]; rfl)) ?_; (with_reducible refine (points_All.calls a0 t638 t639 _ A3.out).mono ?_); rintro e w8 ⟨v640, rfl, ho0, hb⟩; refine ⟨_, rfl, ?_⟩; have n0_ := Aside0.mk (Kd.R_lower ho0 (below_size (by repeat (first | (with_reducible first | exact HB.out | apply below_alloc | apply pw_below_drewN | apply below_drew1) | exact HB.out)))); have n1_ := Aside0.mk (below_step (by repeat (first | (with_reducible first | exact HB.out | apply below_alloc | apply pw_below_drewN | apply below_drew1) | exact HB.out)) hb); clear HB; have HO641 := n0_; have HB := n1_; clear n0_ n1_; (try clear hb); (try clear hb2); (try clear hk); (try clear hi); (try clear ho0)) | ((with_reducible refine gate_callee (f := 129) rfl ?_); refine goesL_ (some 24) rfl rfl Try.func129 (by kernel_rfl) rfl #[.slice A1 l1.length c1] rfl (by (try simp only [List.map_toArray, List.map_cons, List.map_nil]); first | done | rfl | (simp only [List.length_drop, List.length_take]; rfl)) ?_; (with_reducible refine (grid_Check.calls k _ _ l1 t642 t643 _ ?side1 ?side2 A5.out).mono ?_); (case side1 => repeat (first | exact (Kd.C_below HR1.out HB.out) | (with_reducible refine Kd.C_alloc ?_ _) | (with_reducible refine Kd.C_drewN ?_ _) | (with_reducible refine Kd.C_drew ?_))); (case side2 => exact HC1.out); rintro e w9 ⟨rfl, hb⟩; refine ⟨_, rfl, ?_⟩; have n0_ := Aside0.mk (Kd.R_below (by (with_reducible repeat (first | apply Kd.R_alloc | apply Kd.R_drewN | apply Kd.R_drew)); exact HO641.out) hb); have n1_ := Aside0.mk (below_step (by repeat (first | (with_reducible first | exact HB.out | apply below_alloc | apply pw_below_drewN | apply below_drew1) | exact HB.out)) hb); clear HO641; clear HB; have HO641 := n0_; have HB := n1_; clear n0_ n1_; (try clear hb); (try clear hb2); (try clear hk); (try clear hi)) | ((with_reducible refine gate_callee (f := 76) rfl ?_); refine goesL_ (some 30) rfl rfl Try.func76 (by kernel_rfl) rfl #[.int .i64 1] rfl (by (try simp only [List.map_toArray, List.map_cons, List.map_nil]); first | done | rfl | (simp only [List.length_drop, List.length_take]; rfl)) ?_; (with_reducible refine (math_Inf.calls 1 t644 _ A7.out).mono ?_); rintro e w' ⟨rfl, ⟨nd, rfl⟩⟩; refine ⟨_, rfl, ?_⟩))
   go_loopg [4, 5, 33] k (fun kq v4 v5 v33 w' => ∃ (x4_1 : Nat) (x5_1 : Int) (x33_1 : Int), v4 = .float .f64 x4_1 ∧ v5 = .int .i64 x5_1 ∧ v33 = .int .i64 x33_1 ∧ Aside0 (meter_Open.l0 kq x4_1 x5_1 t638 l1 (l1.length : Int) x33_1 = some (r1, r2, r3)) ∧ Aside0 (kq ≤ k) ∧ Aside0 (Kd.R Kd.cplx 32 w' w.heap.size (fun _ => True) v640 t638) ∧ Aside0 (Below w.heap.size w w'))
   case atStart => exact ⟨(t644), ((-1)), (0), (by first | rfl | (simp; done) | (simp [*]; done)), (by first | rfl | (simp; done) | (simp [*]; done)), (by first | rfl | (simp; done) | (simp [*]; done)), H', ⟨Nat.le_refl _⟩, ⟨by (with_reducible repeat (first | apply Kd.R_alloc | apply Kd.R_drewN | apply Kd.R_drew)); exact HO641.out⟩, ⟨by repeat (first | (with_reducible first | exact HB.out | apply below_alloc | apply pw_below_drewN | apply below_drew1) | exact HB.out)⟩⟩
   case round =>
    clear H'
    try clear c1
    try clear p2
    try clear c4
    try clear c4b0
    try clear c4b1
    try clear c5
    try clear c6
    try clear c6b0
    try clear c6b1
    try clear c7
    obtain ⟨x4_1, x5_1, x33_1, rfl, rfl, rfl, HA, HK1, HO_7, HB⟩ := hrel
    cases gk with
    | zero => exact absurd HA.out (by simp [meter_Open.l0])
    | succ k1 =>
     have H := HA.out
     clear HA
     simp only [meter_Open.l0] at H
     by_cases c10 : x33_1 < (l1.length : Int)
     ·rw [if_pos c10] at H
      have c10b0 : decide (x33_1 < (l1.length : Int)) = true := decide_eq_true c10
      clear c10
      by_cases c11 : 0 ≤ x33_1
      ·rw [if_pos c11] at H
       have c11b0 : decide (0 ≤ x33_1) = true := decide_eq_true c11
       clear c11
       by_cases c12 : x33_1 < (l1.length : Int)
       ·rw [if_pos c12] at H
        have c12b0 : decide (x33_1 < (l1.length : Int)) = true := decide_eq_true c12
        clear c12
        obtain ⟨bq13, hbq13⟩ : ∃ b_ : Bool, b_ = ((rd_T101 l1 x33_1).f1) := ⟨_, rfl⟩
        replace H : (if bq13 = true then (meter_Open.l0 k1 x4_1 x5_1 t638 l1 (l1.length : Int) (wrap64 (x33_1 + 1))) else ((meter_nearest.f k1 t638 ((rd_T101 l1 x33_1).f0)).bind fun bt647 => ((floatBits .sub .f64 bt647.2.2 bt647.2.1).bind fun t650 => (if (FloatKind.f64.format.order t650 x4_1 == some .lt) = true then (meter_Open.l0 k1 t650 x33_1 t638 l1 (l1.length : Int) (wrap64 (x33_1 + 1))) else (meter_Open.l0 k1 x4_1 x5_1 t638 l1 (l1.length : Int) (wrap64 (x33_1 + 1))))))) = some (r1, r2, r3) := by rw [← hbq13] at H; exact H
        have Nbq13 := Aside0.mk hbq13
        clear hbq13
        by_cases c14 : bq13 = true
        ·subst c14
         have H1 : (meter_Open.l0 k1 x4_1 x5_1 t638 l1 (l1.length : Int) (wrap64 (x33_1 + 1))) = some (r1, r2, r3) := by rw [if_pos rfl] at H; exact H
         clear H
         have H := H1
         clear H1
         have H' := Aside0.mk H
         clear H
         have p645 : 0 ≤ (x33_1 : Int) := of_decide_eq_true (by first | (with_reducible assumption) | assumption)
         have q645 : x33_1 < (l1.length : Int) := of_decide_eq_true (by first | (with_reducible assumption) | assumption)
         obtain ⟨ad645, e645, hx645_0, hx645_1⟩ := at_T101 HR1.out x33_1 p645 q645
         (try rw [← Nbq13.out] at hx645_1)
         cases e645
         replace hx645_0 := (HB.out.cell (World.block_lt_of_cell? w _ hx645_0)).trans hx645_0
         replace hx645_1 := (HB.out.cell (World.block_lt_of_cell? w _ hx645_1)).trans hx645_1
         replace p645 := eq_true p645
         replace q645 := eq_true q645
         go_wp2_with (first | ((with_reducible refine gate_dst (N := 11) rfl ?_); refine box_event ?hg (N := 11) ?hd (cs := #[.complex .f64 0 0, .bool false]) (t := 101) ?hr ?_; (case hd => rfl); (case hg => rfl); (case hr => first | (go_simp; done) | (go_simp; rfl)); intro gb646 hg w15 hbox hb; have n0_ := Aside0.mk (Kd.R_below (by (with_reducible repeat (first | apply Kd.R_alloc | apply Kd.R_drewN | apply Kd.R_drew)); exact HO_7.out) hb); have n1_ := Aside0.mk (below_step (by repeat (first | (with_reducible first | exact HB.out | apply below_alloc | apply pw_below_drewN | apply below_drew1) | exact HB.out)) hb); have n2_ := Aside0.mk (hbox); have n3_ := Aside0.mk ((by rw [hg]; exact (below_size (by repeat (first | (with_reducible first | exact HB.out | apply below_alloc | apply pw_below_drewN | apply below_drew1) | exact HB.out))) : w.heap.size ≤ gb646)); have n4_ := Aside0.mk ((by rw [hg]; exact (below_size (by repeat (first | (with_reducible first | exact HB.out | apply below_alloc | apply pw_below_drewN | apply below_drew1) | exact HB.out))) : w.heap.size ≤ gb646)); clear HO_7; clear HB; have HO_7 := n0_; have HB := n1_; have BK646 := n2_; have GW646 := n3_; have GE646 := n4_; clear n0_ n1_ n2_ n3_ n4_; clear hb hbox hg; have hcz16_0 : w15.cell? ⟨gb646, 0, none⟩ = some (.complex .f64 0 0) := (blk_cell BK646.out 0).trans rfl; have hcz16_1 : w15.cell? ⟨gb646, 1, none⟩ = some (.bool false) := (blk_cell BK646.out 1).trans rfl; have hfz16_0 := blk_frozen BK646.out 0; have hfz16_1 := blk_frozen BK646.out 1))
         first | go_roundg k1 | (simp only [add_plain] at *; go_roundg k1)
         case measure => have := HK1.out; omega
         case rel => exact ⟨(x4_1), (x5_1), (wrap64 (x33_1 + 1)), (by first | rfl | (simp; done) | (simp [*]; done)), (by first | rfl | (simp; done) | (simp [*]; done)), (by first | rfl | (simp; done) | (simp [*]; done)), H', ⟨by have := HK1.out; omega⟩, ⟨by (with_reducible repeat (first | apply Kd.R_alloc | apply Kd.R_drewN | apply Kd.R_drew)); exact Kd.R_mono (Kd.R_far (p := ⟨gb646, 1, none⟩) (Kd.R_far (p := ⟨gb646, 0, none⟩) (Kd.R_types HO_7.out BK646.out (by decide)) (fun _ hk => hk.2) (.complex .f64 (((rd_T101 l1 x33_1).f0).1) (((rd_T101 l1 x33_1).f0).2))) (fun _ hk => hk.2) (.bool true)) (fun _ hk => trivial)⟩, ⟨by repeat (first | (with_reducible first | exact HB.out | apply below_alloc | apply pw_below_drewN | apply below_drew1 | refine below_set ?_ GE646.out) | exact HB.out)⟩⟩
        ·replace c14 := Bool.eq_false_iff.mpr c14
         subst c14
         have H1 : ((meter_nearest.f k1 t638 ((rd_T101 l1 x33_1).f0)).bind fun bt647 => ((floatBits .sub .f64 bt647.2.2 bt647.2.1).bind fun t650 => (if (FloatKind.f64.format.order t650 x4_1 == some .lt) = true then (meter_Open.l0 k1 t650 x33_1 t638 l1 (l1.length : Int) (wrap64 (x33_1 + 1))) else (meter_Open.l0 k1 x4_1 x5_1 t638 l1 (l1.length : Int) (wrap64 (x33_1 + 1)))))) = some (r1, r2, r3) := by rw [if_neg (show ¬ (false = true) by decide)] at H; exact H
         clear H
         have H := H1
         clear H1
         replace H := Option.bind_eq_some_iff.mp H
         obtain ⟨⟨t647, t648, t649⟩, A170, H⟩ := H
         replace H : ((floatBits .sub .f64 t649 t648).bind fun t650 => (if (FloatKind.f64.format.order t650 x4_1 == some .lt) = true then (meter_Open.l0 k1 t650 x33_1 t638 l1 (l1.length : Int) (wrap64 (x33_1 + 1))) else (meter_Open.l0 k1 x4_1 x5_1 t638 l1 (l1.length : Int) (wrap64 (x33_1 + 1))))) = some (r1, r2, r3) := H
         have A17 := Aside0.mk A170
         clear A170
         replace H := Option.bind_eq_some_iff.mp H
         obtain ⟨t650, A180, H⟩ := H
         replace H : (if (FloatKind.f64.format.order t650 x4_1 == some .lt) = true then (meter_Open.l0 k1 t650 x33_1 t638 l1 (l1.length : Int) (wrap64 (x33_1 + 1))) else (meter_Open.l0 k1 x4_1 x5_1 t638 l1 (l1.length : Int) (wrap64 (x33_1 + 1)))) = some (r1, r2, r3) := H
         have A18 := Aside0.mk A180
         clear A180
         by_cases c19 : (FloatKind.f64.format.order t650 x4_1 == some .lt) = true
         ·rw [if_pos c19] at H
          have c19b0 : (FloatKind.f64.format.order t650 x4_1 == some .lt) = true := c19
          (try (have c19b1 : decide (FloatKind.f64.format.order t650 x4_1 = some .lt) = true := by simpa using c19))
          (try (have c19b2 : (FloatKind.f64.format.order t650 x4_1 == some .lt) = true := by simpa using c19))
          clear c19
          have H' := Aside0.mk H
          clear H
          have p645 : 0 ≤ (x33_1 : Int) := of_decide_eq_true (by first | (with_reducible assumption) | assumption)
          have q645 : x33_1 < (l1.length : Int) := of_decide_eq_true (by first | (with_reducible assumption) | assumption)
          obtain ⟨ad645, e645, hx645_0, hx645_1⟩ := at_T101 HR1.out x33_1 p645 q645
          (try rw [← Nbq13.out] at hx645_1)
          cases e645
          replace hx645_0 := (HB.out.cell (World.block_lt_of_cell? w _ hx645_0)).trans hx645_0
          replace hx645_1 := (HB.out.cell (World.block_lt_of_cell? w _ hx645_1)).trans hx645_1
          replace p645 := eq_true p645
          replace q645 := eq_true q645
          go_wp2_with (first | ((with_reducible refine gate_dst (N := 11) rfl ?_); refine box_event ?hg (N := 11) ?hd (cs := #[.complex .f64 0 0, .bool false]) (t := 101) ?hr ?_; (case hd => rfl); (case hg => rfl); (case hr => first | (go_simp; done) | (go_simp; rfl)); intro gb646 hg w20 hbox hb; have n0_ := Aside0.mk (Kd.R_below (by (with_reducible repeat (first | apply Kd.R_alloc | apply Kd.R_drewN | apply Kd.R_drew)); exact HO_7.out) hb); have n1_ := Aside0.mk (below_step (by repeat (first | (with_reducible first | exact HB.out | apply below_alloc | apply pw_below_drewN | apply below_drew1) | exact HB.out)) hb); have n2_ := Aside0.mk (hbox); have n3_ := Aside0.mk ((by rw [hg]; exact (below_size (by repeat (first | (with_reducible first | exact HB.out | apply below_alloc | apply pw_below_drewN | apply below_drew1) | exact HB.out))) : w.heap.size ≤ gb646)); have n4_ := Aside0.mk ((by rw [hg]; exact (below_size (by repeat (first | (with_reducible first | exact HB.out | apply below_alloc | apply pw_below_drewN | apply below_drew1) | exact HB.out))) : w.heap.size ≤ gb646)); clear HO_7; clear HB; have HO_7 := n0_; have HB := n1_; have BK646 := n2_; have GW646 := n3_; have GE646 := n4_; clear n0_ n1_ n2_ n3_ n4_; clear hb hbox hg; have hcz21_0 : w20.cell? ⟨gb646, 0, none⟩ = some (.complex .f64 0 0) := (blk_cell BK646.out 0).trans rfl; have hcz21_1 : w20.cell? ⟨gb646, 1, none⟩ = some (.bool false) := (blk_cell BK646.out 1).trans rfl; have hfz21_0 := blk_frozen BK646.out 0; have hfz21_1 := blk_frozen BK646.out 1; obtain ⟨Ao22, co22, eo22⟩ := Kd.R_slice HO_7.out; subst eo22) | ((with_reducible refine gate_callee (f := 128) rfl ?_); refine goesL_ (some 44) rfl rfl Try.func128 (by kernel_rfl) rfl #[.slice Ao22 t638.length co22, .complex .f64 (((rd_T101 l1 x33_1).f0).1) (((rd_T101 l1 x33_1).f0).2)] rfl (by (try simp only [List.map_toArray, List.map_cons, List.map_nil]); first | done | rfl | (simp only [List.length_drop, List.length_take]; rfl)) ?_; (with_reducible refine (meter_nearest.calls k1 _ _ t638 ((rd_T101 l1 x33_1).f0) t647 t648 t649 _ ?side1 ?side2 A17.out).mono ?_); (case side1 => refine (Kd.R_reads' (e := 32) (base := w.heap.size) (ok := fun k_ => True) (n := t638.length) (c := co22) ?_).2.2; exact (by (with_reducible repeat (first | apply Kd.R_alloc | apply Kd.R_drewN | apply Kd.R_drew)); exact (Kd.R_mono (Kd.R_far (p := ⟨gb646, 1, none⟩) (Kd.R_far (p := ⟨gb646, 0, none⟩) (Kd.R_types HO_7.out BK646.out (by decide)) (fun _ hk => hk.2) (.complex .f64 (((rd_T101 l1 x33_1).f0).1) (((rd_T101 l1 x33_1).f0).2))) (fun _ hk => hk.2) (.bool false)) (fun _ h_ => h_.1)))); (case side2 => exact (Kd.R_reads' HO_7.out).2.1); rintro e w23 ⟨rfl, hb⟩; refine ⟨_, rfl, ?_⟩; have n0_ := Aside0.mk (Kd.R_below (by (with_reducible repeat (first | apply Kd.R_alloc | apply Kd.R_drewN | apply Kd.R_drew)); exact (Kd.R_mono (Kd.R_far (p := ⟨gb646, 1, none⟩) (Kd.R_far (p := ⟨gb646, 0, none⟩) (Kd.R_types HO_7.out BK646.out (by decide)) (fun _ hk => hk.2) (.complex .f64 (((rd_T101 l1 x33_1).f0).1) (((rd_T101 l1 x33_1).f0).2))) (fun _ hk => hk.2) (.bool false)) (fun _ h_ => h_.1))) hb); have n1_ := Aside0.mk (blk_below (g := gb646) (o := .cells #[.complex .f64 (((rd_T101 l1 x33_1).f0).1) (((rd_T101 l1 x33_1).f0).2), .bool false] 101 (0, 0)) (by (with_reducible repeat (first | refine blk_drewN ?_ _ | refine blk_drew ?_ | refine blk_alloc ?_ _)); refine blk_put (cs := #[.complex .f64 (((rd_T101 l1 x33_1).f0).1) (((rd_T101 l1 x33_1).f0).2), .bool false]) ?_ 1 _ rfl; (with_reducible repeat (first | refine blk_drewN ?_ _ | refine blk_drew ?_ | refine blk_alloc ?_ _)); refine blk_put (cs := #[.complex .f64 0 0, .bool false]) ?_ 0 _ rfl; (with_reducible repeat (first | refine blk_drewN ?_ _ | refine blk_drew ?_ | refine blk_alloc ?_ _)); exact BK646.out) hb); have n2_ := Aside0.mk (below_step (by repeat (first | (with_reducible first | exact HB.out | apply below_alloc | apply pw_below_drewN | apply below_drew1 | refine below_set ?_ GE646.out) | exact HB.out)) hb); clear HO_7; clear BK646; clear HB; have HO_7 := n0_; have BK646 := n1_; have HB := n2_; clear n0_ n1_ n2_; (try clear hb); (try clear hb2); (try clear hk); (try clear hi); have hfoA18_ := fun (t_ : TypeId) (w_ : World) => run_float_arith (P := Try.prog) w_ .sub t_ .f64 t649 t648 t650 A18.out))
          first | go_roundg k1 | (simp only [add_plain] at *; go_roundg k1)
          case measure => have := HK1.out; omega
          case rel => exact ⟨(t650), (x33_1), (wrap64 (x33_1 + 1)), (by first | rfl | (simp; done) | (simp [*]; done)), (by first | rfl | (simp; done) | (simp [*]; done)), (by first | rfl | (simp; done) | (simp [*]; done)), H', ⟨by have := HK1.out; omega⟩, ⟨by (with_reducible repeat (first | apply Kd.R_alloc | apply Kd.R_drewN | apply Kd.R_drew)); exact HO_7.out⟩, ⟨by repeat (first | (with_reducible first | exact HB.out | apply below_alloc | apply pw_below_drewN | apply below_drew1 | refine below_set ?_ GE646.out) | exact HB.out)⟩⟩
         ·rw [if_neg c19] at H
          have c19b0 : (FloatKind.f64.format.order t650 x4_1 == some .lt) = false := by simpa using c19
          (try (have c19b1 : decide (FloatKind.f64.format.order t650 x4_1 = some .lt) = false := by simpa using c19))
          (try (have c19b2 : (FloatKind.f64.format.order t650 x4_1 == some .lt) = false := by simpa using c19))
          (try (have c19b3 : ¬ (FloatKind.f64.format.order t650 x4_1 = some .lt) := by simpa using c19))
          clear c19
          have H' := Aside0.mk H
          clear H
          have p645 : 0 ≤ (x33_1 : Int) := of_decide_eq_true (by first | (with_reducible assumption) | assumption)
          have q645 : x33_1 < (l1.length : Int) := of_decide_eq_true (by first | (with_reducible assumption) | assumption)
          obtain ⟨ad645, e645, hx645_0, hx645_1⟩ := at_T101 HR1.out x33_1 p645 q645
          (try rw [← Nbq13.out] at hx645_1)
          cases e645
          replace hx645_0 := (HB.out.cell (World.block_lt_of_cell? w _ hx645_0)).trans hx645_0
          replace hx645_1 := (HB.out.cell (World.block_lt_of_cell? w _ hx645_1)).trans hx645_1
          replace p645 := eq_true p645
          replace q645 := eq_true q645
          go_wp2_with (first | ((with_reducible refine gate_dst (N := 11) rfl ?_); refine box_event ?hg (N := 11) ?hd (cs := #[.complex .f64 0 0, .bool false]) (t := 101) ?hr ?_; (case hd => rfl); (case hg => rfl); (case hr => first | (go_simp; done) | (go_simp; rfl)); intro gb646 hg w24 hbox hb; have n0_ := Aside0.mk (Kd.R_below (by (with_reducible repeat (first | apply Kd.R_alloc | apply Kd.R_drewN | apply Kd.R_drew)); exact HO_7.out) hb); have n1_ := Aside0.mk (below_step (by repeat (first | (with_reducible first | exact HB.out | apply below_alloc | apply pw_below_drewN | apply below_drew1) | exact HB.out)) hb); have n2_ := Aside0.mk (hbox); have n3_ := Aside0.mk ((by rw [hg]; exact (below_size (by repeat (first | (with_reducible first | exact HB.out | apply below_alloc | apply pw_below_drewN | apply below_drew1) | exact HB.out))) : w.heap.size ≤ gb646)); have n4_ := Aside0.mk ((by rw [hg]; exact (below_size (by repeat (first | (with_reducible first | exact HB.out | apply below_alloc | apply pw_below_drewN | apply below_drew1) | exact HB.out))) : w.heap.size ≤ gb646)); clear HO_7; clear HB; have HO_7 := n0_; have HB := n1_; have BK646 := n2_; have GW646 := n3_; have GE646 := n4_; clear n0_ n1_ n2_ n3_ n4_; clear hb hbox hg; have hcz25_0 : w24.cell? ⟨gb646, 0, none⟩ = some (.complex .f64 0 0) := (blk_cell BK646.out 0).trans rfl; have hcz25_1 : w24.cell? ⟨gb646, 1, none⟩ = some (.bool false) := (blk_cell BK646.out 1).trans rfl; have hfz25_0 := blk_frozen BK646.out 0; have hfz25_1 := blk_frozen BK646.out 1; obtain ⟨Ao26, co26, eo26⟩ := Kd.R_slice HO_7.out; subst eo26) | ((with_reducible refine gate_callee (f := 128) rfl ?_); refine goesL_ (some 44) rfl rfl Try.func128 (by kernel_rfl) rfl #[.slice Ao26 t638.length co26, .complex .f64 (((rd_T101 l1 x33_1).f0).1) (((rd_T101 l1 x33_1).f0).2)] rfl (by (try simp only [List.map_toArray, List.map_cons, List.map_nil]); first | done | rfl | (simp only [List.length_drop, List.length_take]; rfl)) ?_; (with_reducible refine (meter_nearest.calls k1 _ _ t638 ((rd_T101 l1 x33_1).f0) t647 t648 t649 _ ?side1 ?side2 A17.out).mono ?_); (case side1 => refine (Kd.R_reads' (e := 32) (base := w.heap.size) (ok := fun k_ => True) (n := t638.length) (c := co26) ?_).2.2; exact (by (with_reducible repeat (first | apply Kd.R_alloc | apply Kd.R_drewN | apply Kd.R_drew)); exact (Kd.R_mono (Kd.R_far (p := ⟨gb646, 1, none⟩) (Kd.R_far (p := ⟨gb646, 0, none⟩) (Kd.R_types HO_7.out BK646.out (by decide)) (fun _ hk => hk.2) (.complex .f64 (((rd_T101 l1 x33_1).f0).1) (((rd_T101 l1 x33_1).f0).2))) (fun _ hk => hk.2) (.bool false)) (fun _ h_ => h_.1)))); (case side2 => exact (Kd.R_reads' HO_7.out).2.1); rintro e w27 ⟨rfl, hb⟩; refine ⟨_, rfl, ?_⟩; have n0_ := Aside0.mk (Kd.R_below (by (with_reducible repeat (first | apply Kd.R_alloc | apply Kd.R_drewN | apply Kd.R_drew)); exact (Kd.R_mono (Kd.R_far (p := ⟨gb646, 1, none⟩) (Kd.R_far (p := ⟨gb646, 0, none⟩) (Kd.R_types HO_7.out BK646.out (by decide)) (fun _ hk => hk.2) (.complex .f64 (((rd_T101 l1 x33_1).f0).1) (((rd_T101 l1 x33_1).f0).2))) (fun _ hk => hk.2) (.bool false)) (fun _ h_ => h_.1))) hb); have n1_ := Aside0.mk (blk_below (g := gb646) (o := .cells #[.complex .f64 (((rd_T101 l1 x33_1).f0).1) (((rd_T101 l1 x33_1).f0).2), .bool false] 101 (0, 0)) (by (with_reducible repeat (first | refine blk_drewN ?_ _ | refine blk_drew ?_ | refine blk_alloc ?_ _)); refine blk_put (cs := #[.complex .f64 (((rd_T101 l1 x33_1).f0).1) (((rd_T101 l1 x33_1).f0).2), .bool false]) ?_ 1 _ rfl; (with_reducible repeat (first | refine blk_drewN ?_ _ | refine blk_drew ?_ | refine blk_alloc ?_ _)); refine blk_put (cs := #[.complex .f64 0 0, .bool false]) ?_ 0 _ rfl; (with_reducible repeat (first | refine blk_drewN ?_ _ | refine blk_drew ?_ | refine blk_alloc ?_ _)); exact BK646.out) hb); have n2_ := Aside0.mk (below_step (by repeat (first | (with_reducible first | exact HB.out | apply below_alloc | apply pw_below_drewN | apply below_drew1 | refine below_set ?_ GE646.out) | exact HB.out)) hb); clear HO_7; clear BK646; clear HB; have HO_7 := n0_; have BK646 := n1_; have HB := n2_; clear n0_ n1_ n2_; (try clear hb); (try clear hb2); (try clear hk); (try clear hi); have hfoA18_ := fun (t_ : TypeId) (w_ : World) => run_float_arith (P := Try.prog) w_ .sub t_ .f64 t649 t648 t650 A18.out))
          first | go_roundg k1 | (simp only [add_plain] at *; go_roundg k1)
          case measure => have := HK1.out; omega
          case rel => exact ⟨(x4_1), (x5_1), (wrap64 (x33_1 + 1)), (by first | rfl | (simp; done) | (simp [*]; done)), (by first | rfl | (simp; done) | (simp [*]; done)), (by first | rfl | (simp; done) | (simp [*]; done)), H', ⟨by have := HK1.out; omega⟩, ⟨by (with_reducible repeat (first | apply Kd.R_alloc | apply Kd.R_drewN | apply Kd.R_drew)); exact HO_7.out⟩, ⟨by repeat (first | (with_reducible first | exact HB.out | apply below_alloc | apply pw_below_drewN | apply below_drew1 | refine below_set ?_ GE646.out) | exact HB.out)⟩⟩
       ·rw [if_neg c12] at H
        exact absurd H (by simp)
      ·rw [if_neg c11] at H
       exact absurd H (by simp)
     ·rw [if_neg c10] at H
      have c10b0 : decide (x33_1 < (l1.length : Int)) = false := decide_eq_false c10
      clear c10
      by_cases c28 : x5_1 < 0
      ·rw [if_pos c28] at H
       have c28b0 : decide (x5_1 < 0) = true := decide_eq_true c28
       clear c28
       simp only [Option.some.injEq, Prod.mk.injEq] at H
       obtain ⟨rfl, rfl, rfl⟩ := H
       go_wp2
       go_ret3
       exact ⟨by first | rfl | (simp [errW_none, errW_some] <;> rfl) | (simp [*, errW_none, errW_some] <;> rfl), by repeat (first | (with_reducible first | exact HB.out | apply below_alloc | apply pw_below_drewN | apply below_drew1) | exact HB.out)⟩
      ·rw [if_neg c28] at H
       have c28b0 : decide (x5_1 < 0) = false := decide_eq_false c28
       clear c28
       simp only [Option.some.injEq, Prod.mk.injEq] at H
       obtain ⟨rfl, rfl, rfl⟩ := H
       go_wp2
       go_ret3
       exact ⟨by first | rfl | (simp [errW_none, errW_some] <;> rfl) | (simp [*, errW_none, errW_some] <;> rfl), by repeat (first | (with_reducible first | exact HB.out | apply below_alloc | apply pw_below_drewN | apply below_drew1) | exact HB.out)⟩
  ·rw [if_neg c6] at H
   have c6b0 : (t643 == 0) = false := beq_eq_false_iff_ne.mpr c6
   have c6b1 : (t643 != 0) = true := bne_iff_ne.mpr c6
   simp only [Option.some.injEq, Prod.mk.injEq] at H
   obtain ⟨rfl, rfl, rfl⟩ := H
   go_enter Try.func59, Try.ntmps59
   go_wp2_with (first | ((with_reducible refine gate_callee (f := 56) rfl ?_); refine goesL_ (some 17) rfl rfl Try.func56 (by kernel_rfl) rfl #[.int .i64 a0] rfl (by (try simp only [List.map_toArray, List.map_cons, List.map_nil]); first | done | rfl | (simp only [List.length_drop, List.length_take]; rfl)) ?_; (with_reducible refine (points_All.calls a0 t638 t639 _ A3.out).mono ?_); rintro e w29 ⟨v640, rfl, ho0, hb⟩; refine ⟨_, rfl, ?_⟩; have n0_ := Aside0.mk (Kd.R_lower ho0 (below_size (by repeat (first | (with_reducible first | exact HB.out | apply below_alloc | apply pw_below_drewN | apply below_drew1) | exact HB.out)))); have n1_ := Aside0.mk (below_step (by repeat (first | (with_reducible first | exact HB.out | apply below_alloc | apply pw_below_drewN | apply below_drew1) | exact HB.out)) hb); clear HB; have HO641 := n0_; have HB := n1_; clear n0_ n1_; (try clear hb); (try clear hb2); (try clear hk); (try clear hi); (try clear ho0)) | ((with_reducible refine gate_callee (f := 129) rfl ?_); refine goesL_ (some 24) rfl rfl Try.func129 (by kernel_rfl) rfl #[.slice A1 l1.length c1] rfl (by (try simp only [List.map_toArray, List.map_cons, List.map_nil]); first | done | rfl | (simp only [List.length_drop, List.length_take]; rfl)) ?_; (with_reducible refine (grid_Check.calls k _ _ l1 t642 t643 _ ?side1 ?side2 A5.out).mono ?_); (case side1 => repeat (first | exact (Kd.C_below HR1.out HB.out) | (with_reducible refine Kd.C_alloc ?_ _) | (with_reducible refine Kd.C_drewN ?_ _) | (with_reducible refine Kd.C_drew ?_))); (case side2 => exact HC1.out); rintro e w30 ⟨rfl, hb⟩; refine ⟨_, rfl, ?_⟩; have n0_ := Aside0.mk (Kd.R_below (by (with_reducible repeat (first | apply Kd.R_alloc | apply Kd.R_drewN | apply Kd.R_drew)); exact HO641.out) hb); have n1_ := Aside0.mk (below_step (by repeat (first | (with_reducible first | exact HB.out | apply below_alloc | apply pw_below_drewN | apply below_drew1) | exact HB.out)) hb); clear HO641; clear HB; have HO641 := n0_; have HB := n1_; clear n0_ n1_; (try clear hb); (try clear hb2); (try clear hk); (try clear hi)))
   go_ret3
   exact ⟨by first | rfl | (simp [errW_none, errW_some] <;> rfl) | (simp [*, errW_none, errW_some] <;> rfl), by repeat (first | (with_reducible first | exact HB.out | apply below_alloc | apply pw_below_drewN | apply below_drew1) | exact HB.out)⟩
 ·rw [if_neg c4] at H
  have c4b0 : (t639 == 0) = false := beq_eq_false_iff_ne.mpr c4
  have c4b1 : (t639 != 0) = true := bne_iff_ne.mpr c4
  simp only [Option.some.injEq, Prod.mk.injEq] at H
  obtain ⟨rfl, rfl, rfl⟩ := H
  go_enter Try.func59, Try.ntmps59
  go_wp2_with (first | ((with_reducible refine gate_callee (f := 56) rfl ?_); refine goesL_ (some 17) rfl rfl Try.func56 (by kernel_rfl) rfl #[.int .i64 a0] rfl (by (try simp only [List.map_toArray, List.map_cons, List.map_nil]); first | done | rfl | (simp only [List.length_drop, List.length_take]; rfl)) ?_; (with_reducible refine (points_All.calls a0 t638 t639 _ A3.out).mono ?_); rintro e w31 ⟨v640, rfl, ho0, hb⟩; refine ⟨_, rfl, ?_⟩; have n0_ := Aside0.mk (Kd.R_lower ho0 (below_size (by repeat (first | (with_reducible first | exact HB.out | apply below_alloc | apply pw_below_drewN | apply below_drew1) | exact HB.out)))); have n1_ := Aside0.mk (below_step (by repeat (first | (with_reducible first | exact HB.out | apply below_alloc | apply pw_below_drewN | apply below_drew1) | exact HB.out)) hb); clear HB; have HO641 := n0_; have HB := n1_; clear n0_ n1_; (try clear hb); (try clear hb2); (try clear hk); (try clear hi); (try clear ho0)))
  go_ret3
  exact ⟨by first | rfl | (simp [errW_none, errW_some] <;> rfl) | (simp [*, errW_none, errW_some] <;> rfl), by repeat (first | (with_reducible first | exact HB.out | apply below_alloc | apply pw_below_drewN | apply below_drew1) | exact HB.out)⟩

end Go.Proofs.Ythfcafllcgjepaa.Q
