import Derived.Test.YthfcafllcgjepaaFeedbackReachK0
import Derived.Test.YthfcafllcgjepaaFeedbackReachF1
import Derived.Test.YthfcafllcgjepaaFeedbackReachQ0
import Derived.Test.YthfcafllcgjepaaFeedbackReachQ1
import Derived.Test.YthfcafllcgjepaaFeedbackReachQ2
import Derived.Test.YthfcafllcgjepaaFeedbackReachQ4
-- Printed by myprint.py (ours) over the kit's printer, out of the translation.
namespace Go.Proofs.Ythfcafllcgjepaa.Q
open Go.RowKit Go.Proofs.YthfcafllcgjepaaW.PrintWords Go.Proofs.YthfcafllcgjepaaW.PrintLast Go.Proofs.YthfcafllcgjepaaW.PrintMore
attribute [local go_sem] ArrW.ptrOf_slice unary_neg_float unary_neg_complex run_store_float run_store_complex max2_int min2_int max_two min_two max_three min_three max_four min_four   -- for this text's walks alone
set_option linter.unusedVariables false
set_option linter.unusedSimpArgs false
--WALK
def lp_cx (z : Nat × Nat) : Value := .complex .f64 z.1 z.2
def lp_end (s : Lp) : List Value := [.int .i64 s.n, .int .i64 s.pos, .float .f64 s.by_, .int .i64 s.q, .bool s.some_, .bool s.broken, .complex .f64 s.bare.1 s.bare.2]
def lp_cells (s : Lp) : List Value := .int .i64 s.size :: (s.taps.map lp_cx ++ (s.past.map lp_cx ++ lp_end s))
structure LpAt (w : World) (g : Nat) (s : Lp) : Prop where
 ht : s.taps.length = 64
 hp : s.past.length = 64
 hn : 1 ≤ s.n ∧ s.n ≤ 64
 hpos : 0 ≤ s.pos ∧ s.pos < 64
 blk : w.heap[g]? = some (.cells (lp_cells s).toArray 210 (0, 0))
theorem LpAt.cell {w : World} {g : Nat} {s : Lp} (h : LpAt w g s) (i : Nat) : w.cell? ⟨g, i, none⟩ = (lp_cells s)[i]? := (blk_cell h.blk i).trans (by simp)
theorem LpAt.frozen {w : World} {g : Nat} {s : Lp} (h : LpAt w g s) (i : Nat) : w.frozen? ⟨g, i, none⟩ = false := blk_frozen h.blk i
theorem LpAt.c0 {w : World} {g : Nat} {s : Lp} (h : LpAt w g s) : w.cell? ⟨g, 0, none⟩ = some (.int .i64 s.size) := (h.cell 0).trans rfl
theorem LpAt.tap {w : World} {g : Nat} {s : Lp} (h : LpAt w g s) (i : Nat) (hi : i < 64) : w.cell? ⟨g, 1 + i, none⟩ = some (lp_cx (s.taps.getD i (0, 0))) := by
 rw [h.cell, lp_cells, Nat.add_comm 1 i, List.getElem?_cons_succ, List.getElem?_append_left (by rw [List.length_map, h.ht]; exact hi), List.getElem?_map, List.getD_eq_getElem?_getD, List.getElem?_eq_getElem (by rw [h.ht]; exact hi)]
 rfl
theorem LpAt.old {w : World} {g : Nat} {s : Lp} (h : LpAt w g s) (i : Nat) (hi : i < 64) : w.cell? ⟨g, 65 + i, none⟩ = some (lp_cx (s.past.getD i (0, 0))) := by
 rw [h.cell, lp_cells, show 65 + i = (64 + i) + 1 by omega, List.getElem?_cons_succ, List.getElem?_append_right (by rw [List.length_map, h.ht]; omega), List.length_map, h.ht, Nat.add_sub_cancel_left, List.getElem?_append_left (by rw [List.length_map, h.hp]; exact hi), List.getElem?_map, List.getD_eq_getElem?_getD, List.getElem?_eq_getElem (by rw [h.hp]; exact hi)]
 rfl
theorem LpAt.tail {w : World} {g : Nat} {s : Lp} (h : LpAt w g s) (j : Nat) : w.cell? ⟨g, 129 + j, none⟩ = (lp_end s)[j]? := by
 rw [h.cell, lp_cells, show 129 + j = (64 + (64 + j)) + 1 by omega, List.getElem?_cons_succ, List.getElem?_append_right (by rw [List.length_map, h.ht]; omega), List.length_map, h.ht, Nat.add_sub_cancel_left, List.getElem?_append_right (by rw [List.length_map, h.hp]; omega), List.length_map, h.hp, Nat.add_sub_cancel_left]
theorem LpAt.below {w w1 : World} {g : Nat} {s : Lp} (h : LpAt w g s) (hb : Below w.heap.size w w1) : LpAt w1 g s := ⟨h.ht, h.hp, h.hn, h.hpos, blk_below h.blk hb⟩
theorem LpAt.lt {w : World} {g : Nat} {s : Lp} (h : LpAt w g s) : g < w.heap.size := blk_lt h.blk
theorem lp_set_past (s : Lp) (ht : s.taps.length = 64) (hp : s.past.length = 64) (i : Nat) (hi : i < 64) (z : Nat × Nat) : (lp_cells s).set (65 + i) (lp_cx z) = lp_cells { s with past := s.past.set i z } := by
 unfold lp_cells
 rw [show 65 + i = (64 + i) + 1 by omega, List.set_cons_succ, List.set_append_right _ _ (by rw [List.length_map, ht]; omega), List.length_map, ht, Nat.add_sub_cancel_left, List.set_append_left _ _ (by rw [List.length_map, hp]; exact hi), ← List.map_set]
 rfl
theorem lp_set_tail (s s' : Lp) (h1 : s'.size = s.size) (h2 : s'.taps = s.taps) (h3 : s'.past = s.past) (ht : s.taps.length = 64) (hp : s.past.length = 64) (j : Nat) (v : Value) (h : (lp_end s).set j v = lp_end s') : (lp_cells s).set (129 + j) v = lp_cells s' := by
 unfold lp_cells
 rw [h1, h2, h3, ← h, show 129 + j = (64 + (64 + j)) + 1 by omega, List.set_cons_succ, List.set_append_right _ _ (by rw [List.length_map, ht]; omega), List.length_map, ht, Nat.add_sub_cancel_left, List.set_append_right _ _ (by rw [List.length_map, hp]; omega), List.length_map, hp, Nat.add_sub_cancel_left]
theorem LpAt.put_old {w : World} {g : Nat} {s : Lp} (h : LpAt w g s) (i : Nat) (hi : i < 64) (z : Nat × Nat) : LpAt (w.setCell ⟨g, 65 + i, none⟩ (lp_cx z)) g { s with past := s.past.set i z } :=
 ⟨h.ht, by show (s.past.set i z).length = 64; rw [List.length_set]; exact h.hp, h.hn, h.hpos, blk_put h.blk _ _ (by rw [List.setIfInBounds_toArray, lp_set_past s h.ht h.hp i hi z])⟩
theorem LpAt.put {w : World} {g : Nat} {s : Lp} (h : LpAt w g s) (s' : Lp) (j : Nat) (v : Value) (h1 : s'.size = s.size) (h2 : s'.taps = s.taps) (h3 : s'.past = s.past) (h4 : 1 ≤ s'.n ∧ s'.n ≤ 64) (h5 : 0 ≤ s'.pos ∧ s'.pos < 64) (he : (lp_end s).set j v = lp_end s') : LpAt (w.setCell ⟨g, 129 + j, none⟩ v) g s' :=
 ⟨by rw [h2]; exact h.ht, by rw [h3]; exact h.hp, h4, h5, blk_put h.blk _ _ (by rw [List.setIfInBounds_toArray, lp_set_tail s s' h1 h2 h3 h.ht h.hp j v he])⟩
theorem LpAt.drewN {w : World} {g : Nat} {s : Lp} (h : LpAt w g s) (m : Nat) : LpAt (w.drewN m) g s := ⟨h.ht, h.hp, h.hn, h.hpos, h.blk⟩
theorem LpAt.drew {w : World} {g : Nat} {s : Lp} (h : LpAt w g s) : LpAt w.drew g s := ⟨h.ht, h.hp, h.hn, h.hpos, h.blk⟩
theorem LpAt.keep {w w1 : World} {g gd : Nat} {s : Lp} (h : LpAt w g s) (hk : KeepBut w w1 gd none) (hne : gd ≠ g) : LpAt w1 g s := ⟨h.ht, h.hp, h.hn, h.hpos, KeepBut.blk hk h.blk (Ne.symm hne) (by simp)⟩
theorem LpAt.far {w : World} {g gd j : Nat} {s : Lp} (h : LpAt w g s) (hne : gd ≠ g) (u : Value) : LpAt (w.setCell ⟨gd, j, none⟩ u) g s := h.keep ((KeepBut.refl w gd none).set_ j u) hne
theorem LpAt.broke {w : World} {g : Nat} {s : Lp} (h : LpAt w g s) : LpAt (w.setCell ⟨g, 134, none⟩ (.bool true)) g { s with broken := true } := h.put { s with broken := true } 5 _ rfl rfl rfl h.hn h.hpos rfl
theorem LpAt.some' {w : World} {g : Nat} {s : Lp} (h : LpAt w g s) : LpAt (w.setCell ⟨g, 133, none⟩ (.bool true)) g { s with some_ := true } := h.put { s with some_ := true } 4 _ rfl rfl rfl h.hn h.hpos rfl
theorem LpAt.bare' {w : World} {g : Nat} {s : Lp} (h : LpAt w g s) (z : Nat × Nat) : LpAt (w.setCell ⟨g, 135, none⟩ (.complex .f64 z.1 z.2)) g { s with bare := z } := h.put { s with bare := z } 6 _ rfl rfl rfl h.hn h.hpos rfl
theorem LpAt.pos' {w : World} {g : Nat} {s : Lp} (h : LpAt w g s) (x : Int) (hx : 0 ≤ x ∧ x < 64) : LpAt (w.setCell ⟨g, 130, none⟩ (.int .i64 x)) g { s with pos := x } := h.put { s with pos := x } 1 _ rfl rfl rfl h.hn hx rfl
theorem LpAt.by' {w : World} {g : Nat} {s : Lp} (h : LpAt w g s) (x : Nat) : LpAt (w.setCell ⟨g, 131, none⟩ (.float .f64 x)) g { s with by_ := x } := h.put { s with by_ := x } 2 _ rfl rfl rfl h.hn h.hpos rfl
theorem LpAt.q' {w : World} {g : Nat} {s : Lp} (h : LpAt w g s) (x : Int) : LpAt (w.setCell ⟨g, 132, none⟩ (.int .i64 x)) g { s with q := x } := h.put { s with q := x } 3 _ rfl rfl rfl h.hn h.hpos rfl
structure Kb (w w' : World) (g : Nat) : Prop where
 keep : KeepBut w w' g none
 low : Below g w w'
theorem Kb.of_below {w w' : World} {g : Nat} (h : Below w.heap.size w w') (hg : g ≤ w.heap.size) : Kb w w' g := ⟨KeepBut.of_below h g none, h.mono hg⟩
theorem Kb.trans {w w1 w2 : World} {g : Nat} (h : Kb w w1 g) (k : Kb w1 w2 g) : Kb w w2 g := ⟨h.keep.trans k.keep (.inl rfl), h.low.trans k.low⟩
theorem Kb.then_ {w w1 w2 : World} {g : Nat} (h : Kb w w1 g) (k : Below w1.heap.size w1 w2) (hg : g ≤ w1.heap.size) : Kb w w2 g := h.trans (Kb.of_below k hg)
theorem Kb.set_ {w w1 : World} {g : Nat} (h : Kb w w1 g) (j : Nat) (u : Value) : Kb w (w1.setCell ⟨g, j, none⟩ u) g := ⟨h.keep.set_ j u, h.low.setCell (Nat.le_refl g) u⟩
theorem Kb.far {w w1 : World} {g gd j : Nat} (h : Kb w w1 g) (hp : w.heap.size ≤ gd) (hg : g ≤ gd) (u : Value) : Kb w (w1.setCell ⟨gd, j, none⟩ u) g := ⟨keep_far h.keep hp u, h.low.setCell hg u⟩
theorem Kb.drewN {w w1 : World} {g : Nat} (h : Kb w w1 g) (m : Nat) : Kb w (w1.drewN m) g := ⟨keep_drewN h.keep m, pw_below_drewN h.low m⟩
theorem Kb.drew {w w1 : World} {g : Nat} (h : Kb w w1 g) : Kb w w1.drew g := ⟨keep_drew h.keep, below_drew h.low⟩
def LpChk (x : S101) (c1 c2 : Int) : Prop := ∀ (A : Option Addr) (c : Nat) (w : World), Kd.C k101 w A 1 [x] → 1 ≤ c → Calls Try.prog 129 #[.slice A 1 c] w fun e w' => e = .returned (.tuple #[.int .i64 c1, .int .i64 c2]) ∧ Below w.heap.size w w'
set_option maxHeartbeats 8000000 in
set_option maxRecDepth 100000 in
theorem lp_bad (s : Lp) (x : S101) (c1 c2 : Int) (h2 : c2 ≠ 0) (g : Nat) (w : World) (h : LpAt w g s) (hc : LpChk x c1 c2) :
  Calls Try.prog 82 #[.pointer (some ⟨g, 0, none⟩), .agg #[.complex .f64 x.f0.1 x.f0.2, .bool x.f1]] w fun e w' => e = .returned (.tuple #[.agg #[.int .i64 0, .complex .f64 0 0, .bool false], .int .i64 c2]) ∧ LpAt w' g s ∧ Kb w w' g := by
 have hu83 := Try.underlying83
 have hu101 := Try.underlying101
 have hu208 := Try.underlying208
 have hu210 := Try.underlying210
 have GC := Aside0.mk hc
 have LA := Aside0.mk h
 have p2 : (c2 != 0) = true := by simp [h2]
 clear hc h h2
 go_enter Try.func82, Try.ntmps82
 go_wp2_with (first
  | ((with_reducible refine gate_dst (N := 3) rfl ?_); refine box_event ?hg (N := 3) ?hd (cs := #[.complex .f64 x.f0.1 x.f0.2, .bool x.f1]) (t := 101) ?hr ?_; (case hd => rfl); (case hg => rfl); (case hr => first | (go_simp; done) | (go_simp; rfl)); intro gs hgs w1 hbox hb; have GS := Aside0.mk hgs; have BS := Aside0.mk hbox; have LA1 := Aside0.mk (LA.out.below hb); have HB1 := Aside0.mk hb; clear hb hbox hgs)
  | ((with_reducible refine gate_dst (N := 4) rfl ?_); refine box_event ?hg (N := 4) ?hd (cs := #[.int .i64 0, .complex .f64 0 0, .bool false]) (t := 83) ?hr ?_; (case hd => rfl); (case hg => rfl); (case hr => first | (go_simp; done) | (go_simp; rfl)); intro gd hgd w2 hbox hb; have GD := Aside0.mk hgd; have BD := Aside0.mk hbox; have BS2 := Aside0.mk (blk_below BS.out hb); have LA2 := Aside0.mk (LA1.out.below hb); have HB2 := Aside0.mk (HB1.out.trans (hb.mono HB1.out.size)); clear hb hbox hgd BS LA1; have hs0 : w2.cell? ⟨gs, 0, none⟩ = some (.complex .f64 x.f0.1 x.f0.2) := (blk_cell BS2.out 0).trans rfl; have hs1 : w2.cell? ⟨gs, 1, none⟩ = some (.bool x.f1) := (blk_cell BS2.out 1).trans rfl)
  | ((with_reducible refine gate_dst (N := 21) rfl ?_); go_loud (refine Kd.R_lit k101 _ 101 ?hg (N := 21) ?hd (xs := [x]) (inner := [.complex .f64 x.f0.1 x.f0.2, .bool x.f1]) (ok := fun _ => True) (okp := fun _ => True) ?hr ?hp (fun _ hk => hk) trivial (Below.refl _ _) (Nat.le_refl _) (by simp) ?_; (case hd => rfl); (case hg => rfl); (case hr => first | (go_simp; done) | (go_simp; rfl)); (case hp => exact Reps.c2 (k101_mkM _ _ _ x) (Reps.none _ _)); intro v3 w3 ho hb hg_ hnew_; clear hg_ hnew_; have BD3 := Aside0.mk (blk_below BD.out hb); have BS3 := Aside0.mk (blk_below BS2.out hb); have LA3 := Aside0.mk (LA2.out.below hb); have HB3 := Aside0.mk (HB2.out.trans (hb.mono HB2.out.size)); obtain ⟨A3, c3, e3, hc3, hC3⟩ := Kd.R_reads ho; subst e3; have HC3 := Aside0.mk hC3; have HL3 := Aside0.mk hc3; clear ho hb BD BS2 LA2 hs0 hs1 hc3 hC3))
  | (go_at_call 129; refine (GC.out _ _ _ HC3.out HL3.out).mono ?_; rintro e w4 ⟨rfl, hb⟩; have BD4 := Aside0.mk (blk_below BD3.out hb); have BS4 := Aside0.mk (blk_below BS3.out hb); have LA4 := Aside0.mk (LA3.out.below hb); have HB4 := Aside0.mk (HB3.out.trans (hb.mono HB3.out.size)); clear hb BD3 BS3 LA3 HC3 HL3; have hs0 : w4.cell? ⟨gs, 0, none⟩ = some (.complex .f64 x.f0.1 x.f0.2) := (blk_cell BS4.out 0).trans rfl; have hs1 : w4.cell? ⟨gs, 1, none⟩ = some (.bool x.f1) := (blk_cell BS4.out 1).trans rfl; have hd0 : w4.cell? ⟨gd, 0, none⟩ = some (.int .i64 0) := (blk_cell BD4.out 0).trans rfl; have hd1 : w4.cell? ⟨gd, 1, none⟩ = some (.complex .f64 0 0) := (blk_cell BD4.out 1).trans rfl; have hd2 : w4.cell? ⟨gd, 2, none⟩ = some (.bool false) := (blk_cell BD4.out 2).trans rfl; have hz0 := blk_frozen BD4.out 0; have hz1 := blk_frozen BD4.out 1; have hz2 := blk_frozen BD4.out 2))
 have hg1 : gs ≠ g := by have := GS.out; have := LA.out.lt; omega
 have hg2 : gd ≠ g := by have := GD.out; have := HB1.out.size; have := LA.out.lt; omega
 have hg3 : w.heap.size ≤ gd := by have := GD.out; have := HB1.out.size; omega
 have hg4 : g ≤ gd := by have := LA.out.lt; omega
 refine bodyPost_ret (results_ct rfl _ _ gd 83 #[.int .i64 0, .complex .f64 0 0, .bool false] (0, 0) _ rfl (by (with_reducible repeat (first | refine blk_drewN ?_ _ | refine blk_drew ?_ | refine blk_alloc ?_ _)); refine blk_put (cs := #[.int .i64 0, .complex .f64 0 0, .bool false]) ?_ 2 _ rfl; (with_reducible repeat (first | refine blk_drewN ?_ _ | refine blk_drew ?_ | refine blk_alloc ?_ _)); refine blk_put (cs := #[.int .i64 0, .complex .f64 0 0, .bool false]) ?_ 1 _ rfl; (with_reducible repeat (first | refine blk_drewN ?_ _ | refine blk_drew ?_ | refine blk_alloc ?_ _)); refine blk_put (cs := #[.int .i64 0, .complex .f64 0 0, .bool false]) ?_ 0 _ rfl; (with_reducible repeat (first | refine blk_drewN ?_ _ | refine blk_drew ?_ | refine blk_alloc ?_ _)); exact BD4.out) Try.underlying83 rfl (by kernel_rfl)) rfl ?_
 exact ⟨by first | rfl | (simp; done), by ((with_reducible repeat (first | refine LpAt.drewN ?_ _ | refine LpAt.drew ?_ | refine LpAt.far ?_ hg2 _)); exact LA4.out), by ((with_reducible repeat (first | refine Kb.drewN ?_ _ | refine Kb.drew ?_ | refine Kb.set_ ?_ _ _ | refine Kb.far ?_ hg3 hg4 _)); exact Kb.of_below HB4.out (Nat.le_of_lt LA.out.lt))⟩
set_option maxHeartbeats 8000000 in
set_option maxRecDepth 100000 in
theorem lp_broken (s : Lp) (x : S101) (c1 : Int) (h3 : s.broken = true) (g : Nat) (w : World) (h : LpAt w g s) (hc : LpChk x c1 0) :
  Calls Try.prog 82 #[.pointer (some ⟨g, 0, none⟩), .agg #[.complex .f64 x.f0.1 x.f0.2, .bool x.f1]] w fun e w' => e = .returned (.tuple #[.agg #[.int .i64 0, .complex .f64 0 0, .bool true], .int .i64 0]) ∧ LpAt w' g { s with broken := true } ∧ Kb w w' g := by
 have hu83 := Try.underlying83
 have hu101 := Try.underlying101
 have hu208 := Try.underlying208
 have hu210 := Try.underlying210
 have GC := Aside0.mk hc
 have LA := Aside0.mk h
 have SB := Aside0.mk (show lp_end s = _ from congrArg (fun b => [Value.int .i64 s.n, .int .i64 s.pos, .float .f64 s.by_, .int .i64 s.q, .bool s.some_, .bool b, .complex .f64 s.bare.1 s.bare.2]) h3)
 clear hc h h3
 go_enter Try.func82, Try.ntmps82
 go_wp2_with (first
  | ((with_reducible refine gate_dst (N := 3) rfl ?_); refine box_event ?hg (N := 3) ?hd (cs := #[.complex .f64 x.f0.1 x.f0.2, .bool x.f1]) (t := 101) ?hr ?_; (case hd => rfl); (case hg => rfl); (case hr => first | (go_simp; done) | (go_simp; rfl)); intro gs hgs w1 hbox hb; have GS := Aside0.mk hgs; have BS := Aside0.mk hbox; have LA1 := Aside0.mk (LA.out.below hb); have HB1 := Aside0.mk hb; clear hb hbox hgs)
  | ((with_reducible refine gate_dst (N := 4) rfl ?_); refine box_event ?hg (N := 4) ?hd (cs := #[.int .i64 0, .complex .f64 0 0, .bool false]) (t := 83) ?hr ?_; (case hd => rfl); (case hg => rfl); (case hr => first | (go_simp; done) | (go_simp; rfl)); intro gd hgd w2 hbox hb; have GD := Aside0.mk hgd; have BD := Aside0.mk hbox; have BS2 := Aside0.mk (blk_below BS.out hb); have LA2 := Aside0.mk (LA1.out.below hb); have HB2 := Aside0.mk (HB1.out.trans (hb.mono HB1.out.size)); clear hb hbox hgd BS LA1; have hs0 : w2.cell? ⟨gs, 0, none⟩ = some (.complex .f64 x.f0.1 x.f0.2) := (blk_cell BS2.out 0).trans rfl; have hs1 : w2.cell? ⟨gs, 1, none⟩ = some (.bool x.f1) := (blk_cell BS2.out 1).trans rfl)
  | ((with_reducible refine gate_dst (N := 21) rfl ?_); go_loud (refine Kd.R_lit k101 _ 101 ?hg (N := 21) ?hd (xs := [x]) (inner := [.complex .f64 x.f0.1 x.f0.2, .bool x.f1]) (ok := fun _ => True) (okp := fun _ => True) ?hr ?hp (fun _ hk => hk) trivial (Below.refl _ _) (Nat.le_refl _) (by simp) ?_; (case hd => rfl); (case hg => rfl); (case hr => first | (go_simp; done) | (go_simp; rfl)); (case hp => exact Reps.c2 (k101_mkM _ _ _ x) (Reps.none _ _)); intro v3 w3 ho hb hg_ hnew_; clear hg_ hnew_; have BD3 := Aside0.mk (blk_below BD.out hb); have BS3 := Aside0.mk (blk_below BS2.out hb); have LA3 := Aside0.mk (LA2.out.below hb); have HB3 := Aside0.mk (HB2.out.trans (hb.mono HB2.out.size)); obtain ⟨A3, c3, e3, hc3, hC3⟩ := Kd.R_reads ho; subst e3; have HC3 := Aside0.mk hC3; have HL3 := Aside0.mk hc3; clear ho hb BD BS2 LA2 hs0 hs1 hc3 hC3))
  | (go_at_call 129; refine (GC.out _ _ _ HC3.out HL3.out).mono ?_; rintro e w4 ⟨rfl, hb⟩; have BD4 := Aside0.mk (blk_below BD3.out hb); have BS4 := Aside0.mk (blk_below BS3.out hb); have LA4 := Aside0.mk (LA3.out.below hb); have HB4 := Aside0.mk (HB3.out.trans (hb.mono HB3.out.size)); clear hb BD3 BS3 LA3 HC3 HL3; have hs0 : w4.cell? ⟨gs, 0, none⟩ = some (.complex .f64 x.f0.1 x.f0.2) := (blk_cell BS4.out 0).trans rfl; have hs1 : w4.cell? ⟨gs, 1, none⟩ = some (.bool x.f1) := (blk_cell BS4.out 1).trans rfl; have hd0 : w4.cell? ⟨gd, 0, none⟩ = some (.int .i64 0) := (blk_cell BD4.out 0).trans rfl; have hd1 : w4.cell? ⟨gd, 1, none⟩ = some (.complex .f64 0 0) := (blk_cell BD4.out 1).trans rfl; have hd2 : w4.cell? ⟨gd, 2, none⟩ = some (.bool false) := (blk_cell BD4.out 2).trans rfl; have hz0 := blk_frozen BD4.out 0; have hz1 := blk_frozen BD4.out 1; have hz2 := blk_frozen BD4.out 2 ; have hb134 : w4.cell? ⟨g, 134, none⟩ = some (.bool true) := (LA4.out.tail 5).trans (by rw [SB.out]; rfl); have hfz134 := LA4.out.frozen 134))
 have hg1 : gs ≠ g := by have := GS.out; have := LA.out.lt; omega
 have hg2 : gd ≠ g := by have := GD.out; have := HB1.out.size; have := LA.out.lt; omega
 have hg3 : w.heap.size ≤ gd := by have := GD.out; have := HB1.out.size; omega
 have hg4 : g ≤ gd := by have := LA.out.lt; omega
 refine bodyPost_ret (results_ct rfl _ _ gd 83 #[.int .i64 0, .complex .f64 0 0, .bool true] (0, 0) _ rfl (by (with_reducible repeat (first | refine blk_drewN ?_ _ | refine blk_drew ?_ | refine blk_alloc ?_ _)); refine blk_put (cs := #[.int .i64 0, .complex .f64 0 0, .bool false]) ?_ 2 _ rfl; (with_reducible repeat (first | refine blk_drewN ?_ _ | refine blk_drew ?_ | refine blk_alloc ?_ _)); refine blk_put (cs := #[.int .i64 0, .complex .f64 0 0, .bool false]) ?_ 1 _ rfl; (with_reducible repeat (first | refine blk_drewN ?_ _ | refine blk_drew ?_ | refine blk_alloc ?_ _)); refine blk_put (cs := #[.int .i64 0, .complex .f64 0 0, .bool false]) ?_ 0 _ rfl; (with_reducible repeat (first | refine blk_drewN ?_ _ | refine blk_drew ?_ | refine blk_alloc ?_ _)); exact KeepBut.blk ((KeepBut.refl w4 g none).set_ _ _) BD4.out hg2 (by simp)) Try.underlying83 rfl (by kernel_rfl)) rfl ?_
 exact ⟨by first | rfl | (simp; done), by ((with_reducible repeat (first | refine LpAt.drewN ?_ _ | refine LpAt.drew ?_ | refine LpAt.far ?_ hg2 _)); exact LA4.out.broke), by ((with_reducible repeat (first | refine Kb.drewN ?_ _ | refine Kb.drew ?_ | refine Kb.set_ ?_ _ _ | refine Kb.far ?_ hg3 hg4 _)); exact Kb.of_below HB4.out (Nat.le_of_lt LA.out.lt))⟩
set_option maxHeartbeats 8000000 in
set_option maxRecDepth 100000 in
theorem lp_lost (s : Lp) (x : S101) (c1 : Int) (h3 : s.broken = false) (h4 : x.f1 = true) (g : Nat) (w : World) (h : LpAt w g s) (hc : LpChk x c1 0) :
  Calls Try.prog 82 #[.pointer (some ⟨g, 0, none⟩), .agg #[.complex .f64 x.f0.1 x.f0.2, .bool x.f1]] w fun e w' => e = .returned (.tuple #[.agg #[.int .i64 0, .complex .f64 0 0, .bool true], .int .i64 0]) ∧ LpAt w' g { s with broken := true } ∧ Kb w w' g := by
 have hu83 := Try.underlying83
 have hu101 := Try.underlying101
 have hu208 := Try.underlying208
 have hu210 := Try.underlying210
 have GC := Aside0.mk hc
 have LA := Aside0.mk h
 have X1 := Aside0.mk h4
 have SB := Aside0.mk (show lp_end s = _ from congrArg (fun b => [Value.int .i64 s.n, .int .i64 s.pos, .float .f64 s.by_, .int .i64 s.q, .bool s.some_, .bool b, .complex .f64 s.bare.1 s.bare.2]) h3)
 clear hc h h3 h4
 go_enter Try.func82, Try.ntmps82
 go_wp2_with (first
  | ((with_reducible refine gate_dst (N := 3) rfl ?_); refine box_event ?hg (N := 3) ?hd (cs := #[.complex .f64 x.f0.1 x.f0.2, .bool x.f1]) (t := 101) ?hr ?_; (case hd => rfl); (case hg => rfl); (case hr => first | (go_simp; done) | (go_simp; rfl)); intro gs hgs w1 hbox hb; have GS := Aside0.mk hgs; have BS := Aside0.mk hbox; have LA1 := Aside0.mk (LA.out.below hb); have HB1 := Aside0.mk hb; clear hb hbox hgs)
  | ((with_reducible refine gate_dst (N := 4) rfl ?_); refine box_event ?hg (N := 4) ?hd (cs := #[.int .i64 0, .complex .f64 0 0, .bool false]) (t := 83) ?hr ?_; (case hd => rfl); (case hg => rfl); (case hr => first | (go_simp; done) | (go_simp; rfl)); intro gd hgd w2 hbox hb; have GD := Aside0.mk hgd; have BD := Aside0.mk hbox; have BS2 := Aside0.mk (blk_below BS.out hb); have LA2 := Aside0.mk (LA1.out.below hb); have HB2 := Aside0.mk (HB1.out.trans (hb.mono HB1.out.size)); clear hb hbox hgd BS LA1; have hs0 : w2.cell? ⟨gs, 0, none⟩ = some (.complex .f64 x.f0.1 x.f0.2) := (blk_cell BS2.out 0).trans rfl; have hs1 : w2.cell? ⟨gs, 1, none⟩ = some (.bool x.f1) := (blk_cell BS2.out 1).trans rfl)
  | ((with_reducible refine gate_dst (N := 21) rfl ?_); go_loud (refine Kd.R_lit k101 _ 101 ?hg (N := 21) ?hd (xs := [x]) (inner := [.complex .f64 x.f0.1 x.f0.2, .bool x.f1]) (ok := fun _ => True) (okp := fun _ => True) ?hr ?hp (fun _ hk => hk) trivial (Below.refl _ _) (Nat.le_refl _) (by simp) ?_; (case hd => rfl); (case hg => rfl); (case hr => first | (go_simp; done) | (go_simp; rfl)); (case hp => exact Reps.c2 (k101_mkM _ _ _ x) (Reps.none _ _)); intro v3 w3 ho hb hg_ hnew_; clear hg_ hnew_; have BD3 := Aside0.mk (blk_below BD.out hb); have BS3 := Aside0.mk (blk_below BS2.out hb); have LA3 := Aside0.mk (LA2.out.below hb); have HB3 := Aside0.mk (HB2.out.trans (hb.mono HB2.out.size)); obtain ⟨A3, c3, e3, hc3, hC3⟩ := Kd.R_reads ho; subst e3; have HC3 := Aside0.mk hC3; have HL3 := Aside0.mk hc3; clear ho hb BD BS2 LA2 hs0 hs1 hc3 hC3))
  | (go_at_call 129; refine (GC.out _ _ _ HC3.out HL3.out).mono ?_; rintro e w4 ⟨rfl, hb⟩; have BD4 := Aside0.mk (blk_below BD3.out hb); have BS4 := Aside0.mk (blk_below BS3.out hb); have LA4 := Aside0.mk (LA3.out.below hb); have HB4 := Aside0.mk (HB3.out.trans (hb.mono HB3.out.size)); clear hb BD3 BS3 LA3 HC3 HL3; have hs0 : w4.cell? ⟨gs, 0, none⟩ = some (.complex .f64 x.f0.1 x.f0.2) := (blk_cell BS4.out 0).trans rfl; have hs1 : w4.cell? ⟨gs, 1, none⟩ = some (.bool x.f1) := (blk_cell BS4.out 1).trans rfl; have hd0 : w4.cell? ⟨gd, 0, none⟩ = some (.int .i64 0) := (blk_cell BD4.out 0).trans rfl; have hd1 : w4.cell? ⟨gd, 1, none⟩ = some (.complex .f64 0 0) := (blk_cell BD4.out 1).trans rfl; have hd2 : w4.cell? ⟨gd, 2, none⟩ = some (.bool false) := (blk_cell BD4.out 2).trans rfl; have hz0 := blk_frozen BD4.out 0; have hz1 := blk_frozen BD4.out 1; have hz2 := blk_frozen BD4.out 2 ; have hb134 : w4.cell? ⟨g, 134, none⟩ = some (.bool false) := (LA4.out.tail 5).trans (by rw [SB.out]; rfl); have hfz134 := LA4.out.frozen 134; rw [X1.out] at hs1))
 have hg1 : gs ≠ g := by have := GS.out; have := LA.out.lt; omega
 have hg2 : gd ≠ g := by have := GD.out; have := HB1.out.size; have := LA.out.lt; omega
 have hg3 : w.heap.size ≤ gd := by have := GD.out; have := HB1.out.size; omega
 have hg4 : g ≤ gd := by have := LA.out.lt; omega
 refine bodyPost_ret (results_ct rfl _ _ gd 83 #[.int .i64 0, .complex .f64 0 0, .bool true] (0, 0) _ rfl (by (with_reducible repeat (first | refine blk_drewN ?_ _ | refine blk_drew ?_ | refine blk_alloc ?_ _)); refine blk_put (cs := #[.int .i64 0, .complex .f64 0 0, .bool false]) ?_ 2 _ rfl; (with_reducible repeat (first | refine blk_drewN ?_ _ | refine blk_drew ?_ | refine blk_alloc ?_ _)); refine blk_put (cs := #[.int .i64 0, .complex .f64 0 0, .bool false]) ?_ 1 _ rfl; (with_reducible repeat (first | refine blk_drewN ?_ _ | refine blk_drew ?_ | refine blk_alloc ?_ _)); refine blk_put (cs := #[.int .i64 0, .complex .f64 0 0, .bool false]) ?_ 0 _ rfl; (with_reducible repeat (first | refine blk_drewN ?_ _ | refine blk_drew ?_ | refine blk_alloc ?_ _)); exact KeepBut.blk ((KeepBut.refl w4 g none).set_ _ _) BD4.out hg2 (by simp)) Try.underlying83 rfl (by kernel_rfl)) rfl ?_
 exact ⟨by first | rfl | (simp; done), by ((with_reducible repeat (first | refine LpAt.drewN ?_ _ | refine LpAt.drew ?_ | refine LpAt.far ?_ hg2 _)); exact LA4.out.broke), by ((with_reducible repeat (first | refine Kb.drewN ?_ _ | refine Kb.drew ?_ | refine Kb.set_ ?_ _ _ | refine Kb.far ?_ hg3 hg4 _)); exact Kb.of_below HB4.out (Nat.le_of_lt LA.out.lt))⟩
abbrev LpTimes : Prop := ∀ (a b r : Nat × Nat) (w : World), feedback_times.f a b = some r → Calls Try.prog 107 #[.complex .f64 a.1 a.2, .complex .f64 b.1 b.2] w fun e w' => e = .returned (.tuple #[.float .f64 r.1, .float .f64 r.2]) ∧ Drawn0 w w'
abbrev LpTurn (z : Nat × Nat) (q : Int) (r : Nat × Nat) : Prop := ∀ w : World, Calls Try.prog 138 #[.complex .f64 z.1 z.2, .int .i64 q] w fun e w' => e = .returned (.complex .f64 r.1 r.2) ∧ Below w.heap.size w w'
abbrev LpDec (n : Int) (z : Nat × Nat) (r1 : Int) (r2 : Nat × Nat) (r3 : Bool) (r4 : Int) : Prop := ∀ w : World, Calls Try.prog 53 #[.int .i64 n, .complex .f64 z.1 z.2] w fun e w' => e = .returned (.tuple #[.agg #[.int .i64 r1, .complex .f64 r2.1 r2.2, .bool r3], .int .i64 r4]) ∧ Below w.heap.size w w'
set_option maxHeartbeats 8000000 in
set_option maxRecDepth 100000 in
theorem lp_full (s : Lp) (x : S101) (c1 : Int) (re im b1 b2 : Nat) (z : Nat × Nat) (r1 : Int) (r2 : Nat × Nat) (r3 : Bool) (r4 : Int) (g : Nat) (w : World) (h : LpAt w g s) (hc : LpChk x c1 0) (h3 : s.broken = false) (h4 : x.f1 = false)
  (hacc : lp_acc s (s.n.toNat - 1) 1 x.f0.1 x.f0.2 = some (re, im)) (ht : LpTurn (re, im) s.q z) (hq1 : floatBits .quo .f64 z.1 s.by_ = some b1) (hq2 : floatBits .quo .f64 z.2 s.by_ = some b2) (hd : LpDec s.size (b1, b2) r1 r2 r3 r4) (hT : LpTimes) :
  Calls Try.prog 82 #[.pointer (some ⟨g, 0, none⟩), .agg #[.complex .f64 x.f0.1 x.f0.2, .bool x.f1]] w fun e w' => e = .returned (.tuple #[.agg #[.int .i64 r1, .complex .f64 r2.1 r2.2, .bool r3], .int .i64 r4]) ∧ LpAt w' g { s with some_ := true, bare := (b1, b2), past := s.past.set s.pos.toNat r2, pos := Int.tmod (s.pos + 1) 64 } ∧ Kb w w' g := by
 have X1 := Aside0.mk h4
 have SB := Aside0.mk (show lp_end s = _ from congrArg (fun b => [Value.int .i64 s.n, .int .i64 s.pos, .float .f64 s.by_, .int .i64 s.q, .bool s.some_, .bool b, .complex .f64 s.bare.1 s.bare.2]) h3)
 have HA := Aside0.mk hacc
 have HT := Aside0.mk ht
 have HQ1 := Aside0.mk hq1
 have HQ2 := Aside0.mk hq2
 have HD := Aside0.mk hd
 have TM := Aside0.mk hT
 clear h3 h4 hacc ht hq1 hq2 hd hT
 have hu83 := Try.underlying83
 have hu101 := Try.underlying101
 have hu208 := Try.underlying208
 have hu210 := Try.underlying210
 have GC := Aside0.mk hc
 have LA := Aside0.mk h
 clear hc h
 go_enter Try.func82, Try.ntmps82
 go_wp2_with (first
  | ((with_reducible refine gate_dst (N := 3) rfl ?_); refine box_event ?hg (N := 3) ?hd (cs := #[.complex .f64 x.f0.1 x.f0.2, .bool x.f1]) (t := 101) ?hr ?_; (case hd => rfl); (case hg => rfl); (case hr => first | (go_simp; done) | (go_simp; rfl)); intro gs hgs w1 hbox hb; have GS := Aside0.mk hgs; have BS := Aside0.mk hbox; have LA1 := Aside0.mk (LA.out.below hb); have HB1 := Aside0.mk hb; clear hb hbox hgs)
  | ((with_reducible refine gate_dst (N := 4) rfl ?_); refine box_event ?hg (N := 4) ?hd (cs := #[.int .i64 0, .complex .f64 0 0, .bool false]) (t := 83) ?hr ?_; (case hd => rfl); (case hg => rfl); (case hr => first | (go_simp; done) | (go_simp; rfl)); intro gd hgd w2 hbox hb; have GD := Aside0.mk hgd; have BD := Aside0.mk hbox; have BS2 := Aside0.mk (blk_below BS.out hb); have LA2 := Aside0.mk (LA1.out.below hb); have HB2 := Aside0.mk (HB1.out.trans (hb.mono HB1.out.size)); clear hb hbox hgd BS LA1; have hs0 : w2.cell? ⟨gs, 0, none⟩ = some (.complex .f64 x.f0.1 x.f0.2) := (blk_cell BS2.out 0).trans rfl; have hs1 : w2.cell? ⟨gs, 1, none⟩ = some (.bool x.f1) := (blk_cell BS2.out 1).trans rfl)
  | ((with_reducible refine gate_dst (N := 21) rfl ?_); go_loud (refine Kd.R_lit k101 _ 101 ?hg (N := 21) ?hd (xs := [x]) (inner := [.complex .f64 x.f0.1 x.f0.2, .bool x.f1]) (ok := fun _ => True) (okp := fun _ => True) ?hr ?hp (fun _ hk => hk) trivial (Below.refl _ _) (Nat.le_refl _) (by simp) ?_; (case hd => rfl); (case hg => rfl); (case hr => first | (go_simp; done) | (go_simp; rfl)); (case hp => exact Reps.c2 (k101_mkM _ _ _ x) (Reps.none _ _)); intro v3 w3 ho hb hg_ hnew_; clear hg_ hnew_; have BD3 := Aside0.mk (blk_below BD.out hb); have BS3 := Aside0.mk (blk_below BS2.out hb); have LA3 := Aside0.mk (LA2.out.below hb); have HB3 := Aside0.mk (HB2.out.trans (hb.mono HB2.out.size)); obtain ⟨A3, c3, e3, hc3, hC3⟩ := Kd.R_reads ho; subst e3; have HC3 := Aside0.mk hC3; have HL3 := Aside0.mk hc3; clear ho hb BD BS2 LA2 hs0 hs1 hc3 hC3))
  | (go_at_call 129; refine (GC.out _ _ _ HC3.out HL3.out).mono ?_; rintro e w4 ⟨rfl, hb⟩; have BD4 := Aside0.mk (blk_below BD3.out hb); have BS4 := Aside0.mk (blk_below BS3.out hb); have LA4 := Aside0.mk (LA3.out.below hb); have HB4 := Aside0.mk (HB3.out.trans (hb.mono HB3.out.size)); clear hb BD3 BS3 LA3 HC3 HL3; have hs0 : w4.cell? ⟨gs, 0, none⟩ = some (.complex .f64 x.f0.1 x.f0.2) := (blk_cell BS4.out 0).trans rfl; have hs1 : w4.cell? ⟨gs, 1, none⟩ = some (.bool x.f1) := (blk_cell BS4.out 1).trans rfl; have hd0 : w4.cell? ⟨gd, 0, none⟩ = some (.int .i64 0) := (blk_cell BD4.out 0).trans rfl; have hd1 : w4.cell? ⟨gd, 1, none⟩ = some (.complex .f64 0 0) := (blk_cell BD4.out 1).trans rfl; have hd2 : w4.cell? ⟨gd, 2, none⟩ = some (.bool false) := (blk_cell BD4.out 2).trans rfl; have hz0 := blk_frozen BD4.out 0; have hz1 := blk_frozen BD4.out 1; have hz2 := blk_frozen BD4.out 2; have hb134 : w4.cell? ⟨g, 134, none⟩ = some (.bool false) := (LA4.out.tail 5).trans (by rw [SB.out]; rfl); rw [X1.out] at hs1))
 repeat (go_quiet (fail); try go_wp2)
 clear hs0 hs1 hb134
 go_loopg [8, 9, 10] s.n.toNat (fun kq v8 v9 v10 w' => ∃ (j : Nat) (p q : Nat), v8 = .float .f64 p ∧ v9 = .float .f64 q ∧ v10 = .int .i64 (j : Int) ∧ Aside0 (1 ≤ j ∧ (j : Int) ≤ s.n ∧ j + kq = s.n.toNat + 1) ∧ Aside0 (lp_acc s (kq - 1) j p q = some (re, im)) ∧ Aside0 (Below w4.heap.size w4 w'))
 case atStart => exact ⟨1, _, _, rfl, rfl, rfl, ⟨Nat.le_refl _, by have := LA4.out.hn; omega, by have := LA4.out.hn; omega⟩, HA, ⟨by repeat (first | exact Below.refl _ _ | apply pw_below_drewN)⟩⟩
 case round =>
  obtain ⟨j, p, q, rfl, rfl, rfl, HJ, HAc, HBr⟩ := hrel
  have LAr := Aside0.mk (LA4.out.below HBr.out)
  have hc129 : wr.cell? ⟨g, 129, none⟩ = some (.int .i64 s.n) := (LAr.out.tail 0).trans rfl
  have hc130 : wr.cell? ⟨g, 130, none⟩ = some (.int .i64 s.pos) := (LAr.out.tail 1).trans rfl
  cases gk with
  | zero => have := HJ.out; have := LA4.out.hn; omega
  | succ k1 =>
  by_cases hlt : (j : Int) < s.n
  ·have hlt' : decide ((j : Int) < s.n) = true := decide_eq_true hlt
   cases k1 with
   | zero => have := HJ.out; omega
   | succ k2 =>
   clear hlt
   have hj0 : (0 ≤ (j : Int)) = True := eq_true (by omega)
   have hj1 : ((j : Int) < 64) = True := eq_true (by have := HJ.out; have := LA4.out.hn; omega)
   have hcT : wr.cell? ⟨g, 1 + j, none⟩ = some (.complex .f64 (s.taps.getD j (0, 0)).1 (s.taps.getD j (0, 0)).2) := LAr.out.tap j (by have := HJ.out; have := LA4.out.hn; omega)
   have hpos := LA4.out.hpos
   have hJ := HJ.out
   have hn4 := LA4.out.hn
   have hw1 : wrap64 (s.pos - (j : Int)) = s.pos - (j : Int) := by unfold wrap64; omega
   have hw2 : wrap64 (s.pos - (j : Int) + 64) = s.pos - (j : Int) + 64 := by unfold wrap64; omega
   have hv1 : IntKind.i64.wrap (s.pos - (j : Int)) = s.pos - (j : Int) := by rw [i64_w]; exact hw1
   have hv2 : IntKind.i64.wrap (s.pos - (j : Int) + 64) = s.pos - (j : Int) + 64 := by rw [i64_w]; exact hw2
   have hi0' : 0 ≤ (s.pos - (j : Int) + 64).tmod 64 := Int.tmod_nonneg _ (by omega)
   have hi1' : (s.pos - (j : Int) + 64).tmod 64 < 64 := Int.tmod_lt_of_pos _ (by omega)
   have hi0 := eq_true hi0'
   have hi1 := eq_true hi1'
   have hcP : wr.cell? ⟨g, 65 + ((s.pos - (j : Int) + 64).tmod 64).toNat, none⟩ = some (.complex .f64 (s.past.getD (lp_ix s j) (0, 0)).1 (s.past.getD (lp_ix s j) (0, 0)).2) := LAr.out.old (lp_ix s j) (by unfold lp_ix; omega)
   clear hpos hJ hn4 hi0' hi1'
   have HAc2 := HAc.out
   simp only [Nat.add_sub_cancel, lp_acc] at HAc2
   obtain ⟨t, A1, HAc2⟩ := Option.bind_eq_some_iff.1 HAc2
   obtain ⟨p1, A2, HAc2⟩ := Option.bind_eq_some_iff.1 HAc2
   obtain ⟨q1, A3, HAc2⟩ := Option.bind_eq_some_iff.1 HAc2
   have B1 := Aside0.mk A1
   have B2 := Aside0.mk A2
   have B3 := Aside0.mk A3
   have HAn := Aside0.mk HAc2
   clear A1 A2 A3 HAc2
   have hfo1 := fun (t_ : TypeId) (w_ : World) => run_float_arith (P := Try.prog) w_ .sub t_ .f64 p t.1 p1 B2.out
   have hfo2 := fun (t_ : TypeId) (w_ : World) => run_float_arith (P := Try.prog) w_ .sub t_ .f64 q t.2 q1 B3.out
   go_wp2
   go_quiet ((go_at_call 107; exact Calls.quiet_of ((TM.out (s.taps.getD j (0, 0)) (s.past.getD (lp_ix s j) (0, 0)) t _ B1.out).mono fun e w' ⟨he, m⟩ => ⟨he, m.out⟩)))
   go_wp2
   clear hw1 hw2 hv1 hv2 hi0 hi1 hcP hcT hj0 hj1
   go_roundg (k2 + 1)
   case measure => omega
   case rel =>
    have hw : wrap64 ((j : Int) + 1) = ((j + 1 : Nat) : Int) := by have := HJ.out; have := LA4.out.hn; unfold wrap64; omega
    exact ⟨j + 1, p1, q1, rfl, rfl, congrArg (fun y => Value.int .i64 y) hw, ⟨by have := HJ.out; omega, by have := HJ.out; have := eq_true_of_decide hlt'; omega, by have := HJ.out; omega⟩, HAn, ⟨by repeat (first | exact HBr.out | apply pw_below_drewN)⟩⟩
  ·have hlt' : decide ((j : Int) < s.n) = false := decide_eq_false hlt
   have hend : p = re ∧ q = im := by
    have h1 := HAc.out
    have h2 := HJ.out
    have h3 := LA4.out.hn
    obtain rfl : k1 = 0 := by omega
    rw [show 0 + 1 - 1 = 0 from rfl, lp_acc] at h1
    injection h1 with h1
    exact Prod.mk.inj h1
   obtain ⟨rfl, rfl⟩ := hend
   have hc132 : wr.cell? ⟨g, 132, none⟩ = some (.int .i64 s.q) := (LAr.out.tail 3).trans rfl
   clear hlt hc130
   go_wp2_with (go_at_call 138; refine (HT.out _).mono ?_; rintro e w6 ⟨rfl, hb⟩; have LA6 := Aside0.mk (LAr.out.below hb); have HB6 := Aside0.mk (HBr.out.trans (hb.mono HBr.out.size)); clear hb; have hc131 : w6.cell? ⟨g, 131, none⟩ = some (.float .f64 s.by_) := (LA6.out.tail 2).trans rfl; have hf135 := LA6.out.frozen 135; have hc135 : w6.cell? ⟨g, 135, none⟩ = some (.complex .f64 s.bare.1 s.bare.2) := (LA6.out.tail 6).trans rfl; have hfo3 := fun (t_ : TypeId) (w_ : World) => run_float_arith (P := Try.prog) w_ .quo t_ .f64 z.1 s.by_ b1 HQ1.out; have hfo4 := fun (t_ : TypeId) (w_ : World) => run_float_arith (P := Try.prog) w_ .quo t_ .f64 z.2 s.by_ b2 HQ2.out)
   clear hc129 hc132
   have hg2 : gd ≠ g := by have := GD.out; have := HB1.out.size; have := LA.out.lt; omega
   have hg3 : w.heap.size ≤ gd := by have := GD.out; have := HB1.out.size; omega
   have BD6 := blk_below BD4.out HB6.out
   have hgw : g ≤ w.heap.size := Nat.le_of_lt LA.out.lt
   have hg4 : g ≤ gd := by omega
   have HK6 := Kb.of_below (HB4.out.trans (HB6.out.mono HB4.out.size)) hgw
   go_still_tail 18, (by kernel_rfl)
   have LA7 := Aside0.mk LA6.out.drew
   have BD7 := Aside0.mk (show w6.drew.heap[gd]? = _ from BD6)
   have HK7 := Aside0.mk HK6.drew
   change wpList _ _ _ _ _ w6.drew
   clear hc131 hf135 hc135 LA6 HB6 BD6 HK6
   generalize w6.drew = w7 at *
   have hc131 : w7.cell? ⟨g, 131, none⟩ = some (.float .f64 s.by_) := (LA7.out.tail 2).trans rfl
   have hf135 := LA7.out.frozen 135
   have hc135 : w7.cell? ⟨g, 135, none⟩ = some (.complex .f64 s.bare.1 s.bare.2) := (LA7.out.tail 6).trans rfl
   have hf133 := LA7.out.frozen 133
   have hc133 : w7.cell? ⟨g, 133, none⟩ = some (.bool s.some_) := (LA7.out.tail 4).trans rfl
   go_wp2
   clear hc131 hc135 hc133 hf133 hf135
   have LA8 := Aside0.mk (((LA7.out.bare' (b1, b2)).some').drew)
   have BD8 := Aside0.mk (show ((w7.setCell ⟨g, 135, none⟩ (.complex .f64 b1 b2)).setCell ⟨g, 133, none⟩ (.bool true)).drew.heap[gd]? = _ from KeepBut.blk (((KeepBut.refl w7 g none).set_ 135 (.complex .f64 b1 b2)).set_ 133 (.bool true)) BD7.out hg2 (by simp))
   have HK8 := Aside0.mk (((HK7.out.set_ 135 (.complex .f64 b1 b2)).set_ 133 (.bool true)).drew)
   have hc0 : ((w7.setCell ⟨g, 135, none⟩ (.complex .f64 b1 b2)).setCell ⟨g, 133, none⟩ (.bool true)).cell? ⟨g, 0, none⟩ = some (.int .i64 s.size) := LA8.out.c0
   have hcb : ((w7.setCell ⟨g, 135, none⟩ (.complex .f64 b1 b2)).setCell ⟨g, 133, none⟩ (.bool true)).cell? ⟨g, 135, none⟩ = some (.complex .f64 b1 b2) := (LA8.out.tail 6).trans rfl
   generalize ((w7.setCell ⟨g, 135, none⟩ (.complex .f64 b1 b2)).setCell ⟨g, 133, none⟩ (.bool true)) = w8 at *
   have hc0' : w8.drew.cell? ⟨g, 0, none⟩ = some (.int .i64 s.size) := hc0
   have hcb' : w8.drew.cell? ⟨g, 135, none⟩ = some (.complex .f64 b1 b2) := hcb
   clear hc0 hcb
   have hc0 := hc0'
   have hcb := hcb'
   clear hc0' hcb'
   refine start_ (n := 15) (S := fun w' => w'.cell? ⟨g, 0, none⟩ = some (.int .i64 s.size) ∧ w'.cell? ⟨g, 135, none⟩ = some (.complex .f64 b1 b2)) (ds := []) #[false, false, false, false, false, false, false, false, false, false, false, false, false, false, false] (by kernel_rfl) rfl rfl ⟨hc0, hcb⟩ (fun hHeld => ?_)
   refine pure_ (i := 0) (N := some 114) (v := ?_) (a' := ?_) #[true, false, false, false, false, false, false, false, false, false, false, false, false, false, false] rfl rfl (by kernel_rfl) (fun _ _ _ h => h) (Or.inl ⟨by rfl, ?_⟩) ?_ ?_
   rotate_left
   ·intro w'
    go_simp
    with_reducible rfl
   rotate_left
   ·simp only [Act.put, List.setIfInBounds_toArray, List.set_cons_zero, List.set_cons_succ, i64_w, i32_w]
    rfl
   refine pure_ (i := 1) (N := some 115) (v := ?_) (a' := ?_) #[true, true, false, false, false, false, false, false, false, false, false, false, false, false, false] rfl rfl (by kernel_rfl) (fun _ _ _ h => h) (Or.inl ⟨by rfl, ?_⟩) ?_ ?_
   rotate_left
   ·intro w'
    go_simp
    with_reducible rfl
   rotate_left
   ·simp only [Act.put, List.setIfInBounds_toArray, List.set_cons_zero, List.set_cons_succ, i64_w, i32_w]
    rfl
   refine pure_ (i := 2) (N := some 116) (v := ?_) (a' := ?_) #[true, true, true, false, false, false, false, false, false, false, false, false, false, false, false] rfl rfl (by kernel_rfl) (fun _ _ _ h => h) (Or.inl ⟨by rfl, ?_⟩) ?_ ?_
   rotate_left
   ·intro w'
    go_simp
    with_reducible rfl
   rotate_left
   ·simp only [Act.put, List.setIfInBounds_toArray, List.set_cons_zero, List.set_cons_succ, i64_w, i32_w]
    rfl
   refine pure_ (i := 4) (N := some 118) (v := ?_) (a' := ?_) #[true, true, true, false, true, false, false, false, false, false, false, false, false, false, false] rfl rfl (by kernel_rfl) (fun _ _ _ h => h) (Or.inl ⟨by rfl, ?_⟩) ?_ ?_
   rotate_left
   ·intro w'
    go_simp
    with_reducible rfl
   rotate_left
   ·simp only [Act.put, List.setIfInBounds_toArray, List.set_cons_zero, List.set_cons_succ, i64_w, i32_w]
    rfl
   refine pure_ (i := 5) (N := some 119) (v := ?_) (a' := ?_) #[true, true, true, false, true, true, false, false, false, false, false, false, false, false, false] rfl rfl (by kernel_rfl) (fun _ _ _ h => h) (Or.inl ⟨by rfl, ?_⟩) ?_ ?_
   rotate_left
   ·intro w'
    go_simp
    with_reducible rfl
   rotate_left
   ·simp only [Act.put, List.setIfInBounds_toArray, List.set_cons_zero, List.set_cons_succ, i64_w, i32_w]
    rfl
   refine pure_ (i := 6) (N := some 120) (v := ?_) (a' := ?_) #[true, true, true, false, true, true, true, false, false, false, false, false, false, false, false] rfl rfl (by kernel_rfl) (fun _ _ _ h => h) (Or.inl ⟨by rfl, ?_⟩) ?_ ?_
   rotate_left
   ·intro w'
    go_simp
    with_reducible rfl
   rotate_left
   ·simp only [Act.put, List.setIfInBounds_toArray, List.set_cons_zero, List.set_cons_succ, i64_w, i32_w]
    rfl
   refine take_ (i := 3) (N := some 117) (v := ?_) (a' := ?_) #[true, true, true, true, true, true, true, false, false, false, false, false, false, false, false] rfl rfl (by kernel_rfl) (fun _ _ _ h => h) (Or.inl ⟨by rfl, ?_⟩) hHeld ?_ ?_
   rotate_left
   ·rintro w' ⟨s0, s1⟩
    go_simp
    with_reducible rfl
   rotate_left
   ·simp only [Act.put, List.setIfInBounds_toArray, List.set_cons_zero, List.set_cons_succ, i64_w, i32_w]
    rfl
   refine take_ (i := 7) (N := some 121) (v := ?_) (a' := ?_) #[true, true, true, true, true, true, true, true, false, false, false, false, false, false, false] rfl rfl (by kernel_rfl) (fun _ _ _ h => h) (Or.inl ⟨by rfl, ?_⟩) hHeld ?_ ?_
   rotate_left
   ·rintro w' ⟨s0, s1⟩
    go_simp
    with_reducible rfl
   rotate_left
   ·simp only [Act.put, List.setIfInBounds_toArray, List.set_cons_zero, List.set_cons_succ, i64_w, i32_w]
    rfl
   refine join_ (σ := Nat) 2 #[true, true, true, true, true, true, true, true, true, true, true, true, true, false, false] (fun ge => [(122, .tuple #[.agg #[.int .i64 r1, .complex .f64 r2.1 r2.2, .bool r3], .int .i64 r4]), (113, .tuple #[.agg #[.int .i64 r1, .complex .f64 r2.1 r2.2, .bool r3], .int .i64 r4]), (123, .agg #[.int .i64 r1, .complex .f64 r2.1 r2.2, .bool r3]), (124, .int .i64 r4), (14, .pointer (some ⟨ge, 0, none⟩))]) (fun ge w' => LpAt w' g ({ s with some_ := true, bare := (b1, b2) } : Lp) ∧ w'.heap[gd]? = some (.cells #[.int .i64 0, .complex .f64 0 0, .bool false] 83 (0, 0)) ∧ w'.heap[ge]? = some (Obj.cells #[.int .i64 0, .complex .f64 0 0, .bool false] 83 (0, 0)) ∧ Kb w w' g ∧ ge ≠ g ∧ ge ≠ gd ∧ w.heap.size ≤ ge) ?_ ?_
   rotate_left
   ·intro hCont
    refine two_ (i := 8) (j := 12) (Ni := some 122) (Nj := some 14) #[true, true, true, true, true, true, true, true, true, false, false, false, false, false, false] #[true, true, true, true, true, true, true, true, false, false, false, false, true, false, false] rfl rfl rfl rfl (by kernel_rfl) (by decide) (by decide) (fun K hK => ?_) (fun K hK => ?_)
    ·skip
     refine goes_ Try.func53 (by kernel_rfl) rfl #[.int .i64 s.size, .complex .f64 b1 b2] (by rfl) rfl rfl (by simp only [List.map_toArray, List.map_cons, List.map_nil]; rfl) ?_
     with_reducible refine (HD.out _).mono ?_
     rintro e wd ⟨rfl, hb⟩
     refine ⟨_, rfl, ?_⟩
     have LAa := Aside0.mk (LA8.out.below hb)
     have BDa := Aside0.mk (blk_below BD8.out hb)
     have HKa := Aside0.mk (HK8.out.then_ hb (Nat.le_of_lt LA8.out.lt))
     clear hb
     refine hK.out _ _ ⟨LAa.out.c0, ((LAa.out.tail 6).trans rfl)⟩ (fun hHeld => ?_)
     clear hK K
     refine norm_ (a' := ?_) ?_ ?_
     rotate_left
     ·show Act.put _ (some 122) _ = _
      simp only [Act.put, List.setIfInBounds_toArray, List.set_cons_zero, List.set_cons_succ, i64_w, i32_w]
      rfl
     refine pure_ (i := 9) (N := some 113) (v := ?_) (a' := ?_) #[true, true, true, true, true, true, true, true, true, true, false, false, false, false, false] rfl rfl (by kernel_rfl) (fun _ _ _ h => h) (Or.inl ⟨by rfl, ?_⟩) ?_ ?_
     rotate_left
     ·intro w'
      go_simp
      with_reducible rfl
     rotate_left
     ·simp only [Act.put, List.setIfInBounds_toArray, List.set_cons_zero, List.set_cons_succ, i64_w, i32_w]
      rfl
     refine pure_ (i := 10) (N := some 123) (v := ?_) (a' := ?_) #[true, true, true, true, true, true, true, true, true, true, true, false, false, false, false] rfl rfl (by kernel_rfl) (fun _ _ _ h => h) (Or.inl ⟨by rfl, ?_⟩) ?_ ?_
     rotate_left
     ·intro w'
      go_simp
      with_reducible rfl
     rotate_left
     ·simp only [Act.put, List.setIfInBounds_toArray, List.set_cons_zero, List.set_cons_succ, i64_w, i32_w]
      rfl
     refine pure_ (i := 11) (N := some 124) (v := ?_) (a' := ?_) #[true, true, true, true, true, true, true, true, true, true, true, true, false, false, false] rfl rfl (by kernel_rfl) (fun _ _ _ h => h) (Or.inl ⟨by rfl, ?_⟩) ?_ ?_
     rotate_left
     ·intro w'
      go_simp
      with_reducible rfl
     rotate_left
     ·simp only [Act.put, List.setIfInBounds_toArray, List.set_cons_zero, List.set_cons_succ, i64_w, i32_w]
      rfl
     refine one_ (i := 12) (N := some 14) #[true, true, true, true, true, true, true, true, true, true, true, true, true, false, false] rfl rfl (by kernel_rfl) (by decide) (fun K hK => ?_)
     refine value_ (w1 := ?_) (v := ?_) (by rfl) rfl ?_ ?_
     rotate_left 2
     ·go_simp
      constructor
      ·rfl
      ·rfl
     have LAb := Aside0.mk (LAa.out.below (below_alloc (Below.refl wd.heap.size wd) (Obj.cells #[.int .i64 0, .complex .f64 0 0, .bool false] 83 (0, 0))))
     have BDb := Aside0.mk (blk_below BDa.out (below_alloc (Below.refl wd.heap.size wd) (Obj.cells #[.int .i64 0, .complex .f64 0 0, .bool false] 83 (0, 0))))
     have HKb := Aside0.mk (HKa.out.then_ (below_alloc (Below.refl wd.heap.size wd) (Obj.cells #[.int .i64 0, .complex .f64 0 0, .bool false] 83 (0, 0))) (Nat.le_of_lt LAa.out.lt))
     have BNb := Aside0.mk (blk_new wd (Obj.cells #[.int .i64 0, .complex .f64 0 0, .bool false] 83 (0, 0)))
     have hq1 := blk_lt BDa.out
     have hq2 := LAa.out.lt
     have hq3 := HKa.out.keep.1
     refine hK.out _ _ ⟨LAb.out.c0, ((LAb.out.tail 6).trans rfl)⟩ (fun hHeld => ?_)
     clear hK K
     refine norm_ (a' := ?_) ?_ ?_
     rotate_left
     ·show Act.put _ (some 14) _ = _
      simp only [Act.put, List.setIfInBounds_toArray, List.set_cons_zero, List.set_cons_succ, i64_w, i32_w]
      rfl
     exact norm_ (by simp only [putAll, Act.put, List.setIfInBounds_toArray, List.set_cons_zero, List.set_cons_succ]) (hCont wd.heap.size _ ⟨LAb.out, BDb.out, BNb.out, HKb.out, by omega, by omega, by omega⟩)
    ·skip
     refine value_ (w1 := ?_) (v := ?_) (by rfl) rfl ?_ ?_
     rotate_left 2
     ·go_simp
      constructor
      ·rfl
      ·rfl
     have LAa := Aside0.mk (LA8.out.below (below_alloc (Below.refl w8.drew.heap.size w8.drew) (Obj.cells #[.int .i64 0, .complex .f64 0 0, .bool false] 83 (0, 0))))
     have BDa := Aside0.mk (blk_below BD8.out (below_alloc (Below.refl w8.drew.heap.size w8.drew) (Obj.cells #[.int .i64 0, .complex .f64 0 0, .bool false] 83 (0, 0))))
     have HKa := Aside0.mk (HK8.out.then_ (below_alloc (Below.refl w8.drew.heap.size w8.drew) (Obj.cells #[.int .i64 0, .complex .f64 0 0, .bool false] 83 (0, 0))) (Nat.le_of_lt LA8.out.lt))
     have BNa := Aside0.mk (blk_new w8.drew (Obj.cells #[.int .i64 0, .complex .f64 0 0, .bool false] 83 (0, 0)))
     refine hK.out _ _ ⟨LAa.out.c0, ((LAa.out.tail 6).trans rfl)⟩ (fun hHeld => ?_)
     clear hK K
     refine norm_ (a' := ?_) ?_ ?_
     rotate_left
     ·show Act.put _ (some 14) _ = _
      simp only [Act.put, List.setIfInBounds_toArray, List.set_cons_zero, List.set_cons_succ, i64_w, i32_w]
      rfl
     refine one_ (i := 8) (N := some 122) #[true, true, true, true, true, true, true, true, true, false, false, false, true, false, false] rfl rfl (by kernel_rfl) (by decide) (fun K hK => ?_)
     refine goes_ Try.func53 (by kernel_rfl) rfl #[.int .i64 s.size, .complex .f64 b1 b2] (by rfl) rfl rfl (by simp only [List.map_toArray, List.map_cons, List.map_nil]; rfl) ?_
     with_reducible refine (HD.out _).mono ?_
     rintro e wd ⟨rfl, hb⟩
     refine ⟨_, rfl, ?_⟩
     have LAb := Aside0.mk (LAa.out.below hb)
     have BDb := Aside0.mk (blk_below BDa.out hb)
     have HKb := Aside0.mk (HKa.out.then_ hb (Nat.le_of_lt LAa.out.lt))
     have BNb := Aside0.mk (blk_below BNa.out hb)
     clear hb
     have hq0 : w8.drew.heap.size = w8.heap.size := rfl
     have hq1 := blk_lt BD8.out
     have hq2 := LA8.out.lt
     have hq3 := HK8.out.keep.1
     refine hK.out _ _ ⟨LAb.out.c0, ((LAb.out.tail 6).trans rfl)⟩ (fun hHeld => ?_)
     clear hK K
     refine norm_ (a' := ?_) ?_ ?_
     rotate_left
     ·show Act.put _ (some 122) _ = _
      simp only [Act.put, List.setIfInBounds_toArray, List.set_cons_zero, List.set_cons_succ, i64_w, i32_w]
      rfl
     refine pure_ (i := 9) (N := some 113) (v := ?_) (a' := ?_) #[true, true, true, true, true, true, true, true, true, true, false, false, true, false, false] rfl rfl (by kernel_rfl) (fun _ _ _ h => h) (Or.inl ⟨by rfl, ?_⟩) ?_ ?_
     rotate_left
     ·intro w'
      go_simp
      with_reducible rfl
     rotate_left
     ·simp only [Act.put, List.setIfInBounds_toArray, List.set_cons_zero, List.set_cons_succ, i64_w, i32_w]
      rfl
     refine pure_ (i := 10) (N := some 123) (v := ?_) (a' := ?_) #[true, true, true, true, true, true, true, true, true, true, true, false, true, false, false] rfl rfl (by kernel_rfl) (fun _ _ _ h => h) (Or.inl ⟨by rfl, ?_⟩) ?_ ?_
     rotate_left
     ·intro w'
      go_simp
      with_reducible rfl
     rotate_left
     ·simp only [Act.put, List.setIfInBounds_toArray, List.set_cons_zero, List.set_cons_succ, i64_w, i32_w]
      rfl
     refine pure_ (i := 11) (N := some 124) (v := ?_) (a' := ?_) #[true, true, true, true, true, true, true, true, true, true, true, true, true, false, false] rfl rfl (by kernel_rfl) (fun _ _ _ h => h) (Or.inl ⟨by rfl, ?_⟩) ?_ ?_
     rotate_left
     ·intro w'
      go_simp
      with_reducible rfl
     rotate_left
     ·simp only [Act.put, List.setIfInBounds_toArray, List.set_cons_zero, List.set_cons_succ, i64_w, i32_w]
      rfl
     exact norm_ (by simp only [putAll, Act.put, List.setIfInBounds_toArray, List.set_cons_zero, List.set_cons_succ]) (hCont w8.heap.size _ ⟨LAb.out, BDb.out, BNb.out, HKb.out, by omega, by omega, by omega⟩)
   rintro ge wy ⟨l1, l2, l3, l4, l5, l6, l7⟩
   have LA10 := Aside0.mk l1
   have BD10 := Aside0.mk l2
   have BE := Aside0.mk l3
   have HK10 := Aside0.mk l4
   have GE1 := Aside0.mk l5
   have GE2 := Aside0.mk l6
   have GE3 := Aside0.mk l7
   have hHeld : wy.cell? ⟨g, 0, none⟩ = some (.int .i64 s.size) ∧ wy.cell? ⟨g, 135, none⟩ = some (.complex .f64 b1 b2) := ⟨LA10.out.c0, (LA10.out.tail 6).trans rfl⟩
   clear l1 l2 l3 l4 l5 l6 l7
   have hze0 := blk_frozen BE.out 0
   have hze1 := blk_frozen BE.out 1
   have hze2 := blk_frozen BE.out 2
   have hce0 : wy.cell? ⟨ge, 0, none⟩ = some (.int .i64 0) := (blk_cell BE.out 0).trans rfl
   have hce1 : wy.cell? ⟨ge, 1, none⟩ = some (.complex .f64 0 0) := (blk_cell BE.out 1).trans rfl
   have hce2 : wy.cell? ⟨ge, 2, none⟩ = some (.bool false) := (blk_cell BE.out 2).trans rfl
   refine norm_ (a' := ?_) ?_ ?_
   rotate_left
   ·simp only [putAll, Act.put, List.setIfInBounds_toArray, List.set_cons_zero, List.set_cons_succ]
    rfl
   refine one_ (i := 13) (N := none) #[true, true, true, true, true, true, true, true, true, true, true, true, true, true, false] rfl rfl (by kernel_rfl) (by decide) (fun K hK => ?_)
   refine skip_ (w1 := ?_) (by rfl) rfl ?_ ?_
   rotate_left
   ·go_simp
    rfl
   have LA11 := Aside0.mk (((LA10.out.far (j := 0) GE1.out (.int .i64 r1)).far (j := 1) GE1.out (.complex .f64 r2.1 r2.2)).far (j := 2) GE1.out (.bool r3))
   refine hK.out _ _ ⟨LA11.out.c0, ((LA11.out.tail 6).trans rfl)⟩ (fun hHeld => ?_)
   clear hK K
   refine pure_ (i := 14) (N := some 15) (v := ?_) (a' := ?_) #[true, true, true, true, true, true, true, true, true, true, true, true, true, true, true] rfl rfl (by kernel_rfl) (fun _ _ _ h => h) (Or.inl ⟨by rfl, ?_⟩) ?_ ?_
   rotate_left
   ·intro w'
    go_simp
    with_reducible rfl
   rotate_left
   ·simp only [Act.put, List.setIfInBounds_toArray, List.set_cons_zero, List.set_cons_succ, i64_w, i32_w]
    rfl
   refine done_ (by kernel_rfl) ?_
   have LA12 := Aside0.mk (show LpAt (((wy.setCell ⟨ge, 0, none⟩ (.int .i64 r1)).setCell ⟨ge, 1, none⟩ (.complex .f64 r2.1 r2.2)).setCell ⟨ge, 2, none⟩ (.bool r3)).drew g ({ s with some_ := true, bare := (b1, b2) } : Lp) from LA11.out.drew)
   have BD12 := Aside0.mk (show (((wy.setCell ⟨ge, 0, none⟩ (.int .i64 r1)).setCell ⟨ge, 1, none⟩ (.complex .f64 r2.1 r2.2)).setCell ⟨ge, 2, none⟩ (.bool r3)).drew.heap[gd]? = _ from KeepBut.blk (((KeepBut.refl wy ge none).set_ 0 (.int .i64 r1)).set_ 1 (.complex .f64 r2.1 r2.2) |>.set_ 2 (.bool r3)) BD10.out (Ne.symm GE2.out) (by simp))
   have BE12 := Aside0.mk (show (((wy.setCell ⟨ge, 0, none⟩ (.int .i64 r1)).setCell ⟨ge, 1, none⟩ (.complex .f64 r2.1 r2.2)).setCell ⟨ge, 2, none⟩ (.bool r3)).drew.heap[ge]? = some (.cells #[.int .i64 r1, .complex .f64 r2.1 r2.2, .bool r3] 83 (0, 0)) from blk_put (cs := #[.int .i64 r1, .complex .f64 r2.1 r2.2, .bool false]) (blk_put (cs := #[.int .i64 r1, .complex .f64 0 0, .bool false]) (blk_put (cs := #[.int .i64 0, .complex .f64 0 0, .bool false]) BE.out 0 _ rfl) 1 _ rfl) 2 _ rfl)
   have HK12 := Aside0.mk (show Kb w (((wy.setCell ⟨ge, 0, none⟩ (.int .i64 r1)).setCell ⟨ge, 1, none⟩ (.complex .f64 r2.1 r2.2)).setCell ⟨ge, 2, none⟩ (.bool r3)).drew g from Kb.drew (Kb.far (Kb.far (Kb.far HK10.out GE3.out (Nat.le_trans hgw GE3.out) _) GE3.out (Nat.le_trans hgw GE3.out) _) GE3.out (Nat.le_trans hgw GE3.out) _))
   clear hHeld LA11 LA10 BD10 BE HK10 hze0 hze1 hze2 hce0 hce1 hce2
   generalize hWz : (((wy.setCell ⟨ge, 0, none⟩ (.int .i64 r1)).setCell ⟨ge, 1, none⟩ (.complex .f64 r2.1 r2.2)).setCell ⟨ge, 2, none⟩ (.bool r3)) = wz at *
   have hp130 : wz.cell? ⟨g, 130, none⟩ = some (.int .i64 s.pos) := (LA12.out.tail 1).trans rfl
   have he1 : wz.cell? ⟨ge, 1, none⟩ = some (.complex .f64 r2.1 r2.2) := (blk_cell BE12.out 1).trans rfl
   have hi0' : 0 ≤ s.pos := LA12.out.hpos.1
   have hi1' : s.pos < 64 := LA12.out.hpos.2
   have hi0 := eq_true hi0'
   have hi1 := eq_true hi1'
   have hip : s.pos.toNat < 64 := by omega
   have hpw : wrap64 (s.pos + 1) = s.pos + 1 := by unfold wrap64; omega
   have hpr : 0 ≤ Int.tmod (s.pos + 1) 64 ∧ Int.tmod (s.pos + 1) 64 < 64 := ⟨Int.tmod_nonneg _ (by omega), Int.tmod_lt_of_pos _ (by omega)⟩
   have hGd : gd ≠ g := hg2
   have HPR := Aside0.mk hpr
   have HIP := Aside0.mk hip
   clear hi0' hi1' hpr hip
   clear hWz
   go_wp2
   go_still_tail 10, (by kernel_rfl)
   clear hp130 he1
   change wpList _ _ _ _ _ wz.drew
   generalize wz.drew = wv at *
   have he1 : wv.cell? ⟨ge, 1, none⟩ = some (.complex .f64 r2.1 r2.2) := (blk_cell BE12.out 1).trans rfl
   have hp130 : wv.cell? ⟨g, 130, none⟩ = some (.int .i64 s.pos) := (LA12.out.tail 1).trans rfl
   have hpo : wv.cell? ⟨g, 65 + s.pos.toNat, none⟩ = some (.complex .f64 (s.past.getD s.pos.toNat (0, 0)).1 (s.past.getD s.pos.toNat (0, 0)).2) := LA12.out.old s.pos.toNat HIP.out
   have hpf := LA12.out.frozen (65 + s.pos.toNat)
   have LA13 := Aside0.mk (LA12.out.put_old s.pos.toNat HIP.out r2)
   have hq130 : (wv.setCell ⟨g, 65 + s.pos.toNat, none⟩ (.complex .f64 r2.1 r2.2)).cell? ⟨g, 130, none⟩ = some (.int .i64 s.pos) := (LA13.out.tail 1).trans rfl
   have hqf : (wv.setCell ⟨g, 65 + s.pos.toNat, none⟩ (.complex .f64 r2.1 r2.2)).frozen? ⟨g, 130, none⟩ = false := LA13.out.frozen 130
   have LA14 := Aside0.mk (LA13.out.pos' (Int.tmod (s.pos + 1) 64) HPR.out)
   have HK14 := Aside0.mk ((HK12.out.set_ (65 + s.pos.toNat) (.complex .f64 r2.1 r2.2)).set_ 130 (.int .i64 (Int.tmod (s.pos + 1) 64)))
   have HKv := ((KeepBut.refl wv g none).set_ (65 + s.pos.toNat) (.complex .f64 r2.1 r2.2)).set_ 130 (.int .i64 (Int.tmod (s.pos + 1) 64))
   have BD14 := Aside0.mk (KeepBut.blk HKv BD12.out hg2 (by simp))
   have BE14 := Aside0.mk (KeepBut.blk HKv BE12.out GE1.out (by simp))
   clear HKv
   have ha0 := (blk_cell BE14.out 0).trans rfl
   have ha1 := (blk_cell BE14.out 1).trans rfl
   have ha2 := (blk_cell BE14.out 2).trans rfl
   have hb0 := (blk_cell BD14.out 0).trans rfl
   have hb1 := (blk_cell BD14.out 1).trans rfl
   have hb2 := (blk_cell BD14.out 2).trans rfl
   have hz0 := blk_frozen BD14.out 0
   have hz1 := blk_frozen BD14.out 1
   have hz2 := blk_frozen BD14.out 2
   go_wp2
   refine bodyPost_ret (results_ct rfl _ _ gd 83 #[.int .i64 r1, .complex .f64 r2.1 r2.2, .bool r3] (0, 0) _ rfl (blk_put (cs := #[.int .i64 r1, .complex .f64 r2.1 r2.2, .bool false]) (blk_put (cs := #[.int .i64 r1, .complex .f64 0 0, .bool false]) (blk_put (cs := #[.int .i64 0, .complex .f64 0 0, .bool false]) BD14.out 0 _ rfl) 1 _ rfl) 2 _ rfl) Try.underlying83 rfl (by kernel_rfl)) rfl ?_
   exact ⟨by first | rfl | (simp; done), ((LA14.out.far hg2 _).far hg2 _).far hg2 _, Kb.far (Kb.far (Kb.far HK14.out hg3 hg4 _) hg3 hg4 _) hg3 hg4 _⟩
theorem lp_set_tap (s : Lp) (ht : s.taps.length = 64) (i : Nat) (hi : i < 64) (z : Nat × Nat) : (lp_cells s).set (1 + i) (lp_cx z) = lp_cells { s with taps := s.taps.set i z } := by
 unfold lp_cells
 rw [Nat.add_comm 1 i, List.set_cons_succ, List.set_append_left _ _ (by rw [List.length_map, ht]; exact hi), ← List.map_set]
 rfl
theorem LpAt.put_tap {w : World} {g : Nat} {s : Lp} (h : LpAt w g s) (i : Nat) (hi : i < 64) (z : Nat × Nat) : LpAt (w.setCell ⟨g, 1 + i, none⟩ (lp_cx z)) g { s with taps := s.taps.set i z } :=
 ⟨by show (s.taps.set i z).length = 64; rw [List.length_set]; exact h.ht, h.hp, h.hn, h.hpos, blk_put h.blk _ _ (by rw [List.setIfInBounds_toArray, lp_set_tap s h.ht i hi z])⟩
theorem lp_setCells (hs : List (Nat × Nat)) : ∀ (i : Nat) (w : World) (g : Nat) (s : Lp), i + hs.length ≤ 64 → LpAt w g s → LpAt (w.setCells g (1 + i) (hs.map lp_cx)) g { s with taps := ArrW.setFrom s.taps i hs } ∧ KeepBut w (w.setCells g (1 + i) (hs.map lp_cx)) g none := by
 induction hs with
 | nil => intro i w g s _ h; exact ⟨h, KeepBut.refl _ _ _⟩
 | cons z r ih =>
  intro i w g s hi h
  rw [List.length_cons] at hi
  obtain ⟨h1, h2⟩ := ih (i + 1) _ g _ (by omega) (h.put_tap i (by omega) z)
  exact ⟨h1, (((KeepBut.refl w g none).set_ (1 + i) (lp_cx z))).trans h2 (.inl rfl)⟩
theorem lp_copy_event {P : Program} {ops : Array Oper} {rest : List Oper} {o : Oper} {a : Act} {Q : Exit → Act → World → Prop} {W : World} (hgd : o.guard = none) (x y : Operand) (t : TypeId)
  (ho : o.op = .call { callee := .builtin .copy, args := #[x, y], argTypes := #[t, t] }) (ht : P.underlying t = some (.slice 32)) (hi : (P.info? 32).map (·.size) = some 1) (g : Nat) (s : Lp) (hs : List (Nat × Nat)) (A : Option Addr) (c cd : Nat) (hx : a.eval x = .slice (some ⟨g, 1, none⟩) 64 cd) (hy : a.eval y = .slice A hs.length c)
  (LA : LpAt W g s) (HR : Kd.C Kd.cplx W A hs.length hs) (hl : 1 ≤ hs.length ∧ hs.length ≤ 64)
  (h : ∀ w1, LpAt w1 g { s with taps := ArrW.setFrom s.taps 0 hs } → KeepBut W w1 g none → (∀ w : World, w.heap.size ≤ g → Below w.heap.size w W → Below w.heap.size w w1) → wpList P ops Q rest (a.put o.dst (.int .i64 (hs.length : Int))) w1) : wpList P ops Q (o :: rest) a W := by
 obtain ⟨ad, rfl, hsrc⟩ := (Kd.reads_of_C (d := ((0, 0) : Nat × Nat)) HR).2.2 (by omega)
 have hlen : (hs.map lp_cx).length = hs.length := List.length_map ..
 have hc := run_copy_cells (P := P) W t t o.type 32 g 1 64 cd ad hs.length c (hs.map lp_cx) ht hi (by rw [hlen]; show hs.length = min hs.length 64; omega)
  (fun j u hj => by
   rw [List.getElem?_map, Option.map_eq_some_iff] at hj
   obtain ⟨z, hz, rfl⟩ := hj
   obtain ⟨hlt, _⟩ := List.getElem?_eq_some_iff.1 hz
   rw [hsrc j hlt, List.getD_eq_getElem?_getD, hz]
   rfl)
  (fun j hj => by rw [hlen] at hj; rw [LA.tap j (by omega)]; rfl) (fun j _ => LA.frozen (1 + j)) (fun v hv => by obtain ⟨z, _, rfl⟩ := List.mem_map.1 hv; rfl)
 rw [hlen] at hc
 obtain ⟨h1, h2⟩ := lp_setCells hs 0 W g s (by omega) LA
 refine Kd.event_run hgd ?_ (h _ h1 h2 (fun w hw hb => ArrW.below_setCells hw _ _ _ hb))
 unfold execOp
 rw [ho]
 simp only [resolve, invoke, builtin, Sem.run_bind, Sem.run_pure, List.map_toArray, List.map_cons, List.map_nil, hx, hy, Result.andThen]
 rw [hc]
 rfl
abbrev LpEdge (n r1 r2 : Int) : Prop := ∀ w : World, Calls Try.prog 118 #[.int .i64 n] w fun e w' => e = .returned (.tuple #[.int .i64 r1, .int .i64 r2]) ∧ Below w.heap.size w w'
abbrev LpCheck (h : List (Nat × Nat)) (r : Int) : Prop := ∀ (A : Option Addr) (c : Nat) (w : World), Kd.C Kd.cplx w A h.length h → h.length ≤ c → Calls Try.prog 27 #[.slice A h.length c] w fun e w' => e = .returned (.int .i64 r) ∧ Below w.heap.size w w'
abbrev LpFirst (z : Nat × Nat) (b : Nat) (q : Int) (ok : Bool) : Prop := ∀ w : World, Calls Try.prog 108 #[.complex .f64 z.1 z.2] w fun e w' => e = .returned (.tuple #[.float .f64 b, .int .i64 q, .bool ok]) ∧ Below w.heap.size w w'
theorem lp_zero_at (n : Int) (l : Nat) (hl : 1 ≤ l ∧ l ≤ 64) {w : World} {g : Nat} (h : w.heap[g]? = some (.cells (lp_cells (lp_zero n l)).toArray 210 (0, 0))) : LpAt w g (lp_zero n l) :=
 ⟨List.length_replicate, List.length_replicate, by show 1 ≤ (l : Int) ∧ (l : Int) ≤ 64; omega, ⟨Int.le_refl 0, by show (0 : Int) < 64; decide⟩, h⟩
set_option maxHeartbeats 8000000 in
set_option maxRecDepth 100000 in
theorem lp_new_edge (n r1 r2 : Int) (h : List (Nat × Nat)) (A : Option Addr) (c : Nat) (w : World) (hE : LpEdge n r1 r2) (h2 : r2 ≠ 0) :
  Calls Try.prog 79 #[.int .i64 n, .slice A h.length c] w fun e w' => e = .returned (.tuple #[.pointer none, .int .i64 1]) ∧ Below w.heap.size w w' := by
 have HE := Aside0.mk hE
 have p2 : (r2 != 0) = true := by simp [h2]
 clear hE h2
 go_enter Try.func79, Try.ntmps79
 go_wp2_with (go_at_call 118; refine (HE.out _).mono ?_; rintro e w1 ⟨rfl, hb⟩; have HB := Aside0.mk hb; clear hb)
 go_ret2
 exact ⟨by first | rfl | (simp [go_sem]; done), by repeat (first | exact HB.out | apply below_alloc | apply pw_below_drewN)⟩
set_option maxHeartbeats 8000000 in
set_option maxRecDepth 100000 in
theorem lp_new_check (n r1 r : Int) (h : List (Nat × Nat)) (A : Option Addr) (c : Nat) (w : World) (hE : LpEdge n r1 0) (hC : LpCheck h r) (hr : Kd.C Kd.cplx w A h.length h) (hc : h.length ≤ c) (h2 : r ≠ 0) :
  Calls Try.prog 79 #[.int .i64 n, .slice A h.length c] w fun e w' => e = .returned (.tuple #[.pointer none, .int .i64 r]) ∧ Below w.heap.size w w' := by
 have HE := Aside0.mk hE
 have HC := Aside0.mk hC
 have HR := Aside0.mk hr
 have HL := Aside0.mk hc
 have p2 : (r != 0) = true := by simp [h2]
 clear hE h2 hC hr hc
 go_enter Try.func79, Try.ntmps79
 go_wp2_with (first | (go_at_call 118; refine (HE.out _).mono ?_; rintro e w1 ⟨rfl, hb⟩; have HB := Aside0.mk hb; have HR1 := Aside0.mk (Kd.C_below HR.out hb); clear hb) | (go_at_call 27; refine (HC.out _ _ _ HR1.out HL.out).mono ?_; rintro e w2 ⟨rfl, hb⟩; have HB2 := Aside0.mk (HB.out.trans (hb.mono HB.out.size)); clear hb))
 go_ret2
 exact ⟨by first | rfl | (simp [go_sem]; done), by repeat (first | exact HB2.out | apply below_alloc | apply pw_below_drewN)⟩
set_option maxHeartbeats 8000000 in
set_option maxRecDepth 100000 in
theorem lp_new_ok (n r1 : Int) (h : List (Nat × Nat)) (b : Nat) (q : Int) (ok : Bool) (A : Option Addr) (c : Nat) (w : World) (hE : LpEdge n r1 0) (hC : LpCheck h 0) (hF : LpFirst (h.getD 0 (0, 0)) b q ok) (hr : Kd.C Kd.cplx w A h.length h) (hc : h.length ≤ c) (hl : 1 ≤ h.length ∧ h.length ≤ 64) :
  Calls Try.prog 79 #[.int .i64 n, .slice A h.length c] w fun e w' => ∃ g, e = .returned (.tuple #[.pointer (some ⟨g, 0, none⟩), .int .i64 0]) ∧ LpAt w' g { lp_zero n h.length with taps := ArrW.setFrom (List.replicate 64 (0, 0)) 0 h, by_ := b, q := q } ∧ w.heap.size ≤ g ∧ Below w.heap.size w w' := by
 obtain ⟨ad, rfl, hx0⟩ := Kd.at_cplx hr 0 (Int.le_refl 0) (by omega)
 obtain ⟨z0, hz0⟩ : ∃ z0, z0 = h.getD 0 (0, 0) := ⟨_, rfl⟩
 rw [← hz0] at hF
 have HX := Aside0.mk (show w.cell? ad = some (.complex .f64 z0.1 z0.2) from hz0 ▸ hx0)
 have hp1 : (0 < (h.length : Int)) = True := eq_true (by omega)
 have hp2 : (0 < h.length) = True := eq_true (by omega)
 have HE := Aside0.mk hE
 have HC := Aside0.mk hC
 have HF := Aside0.mk hF
 have HR := Aside0.mk hr
 have HL := Aside0.mk hc
 have HN := Aside0.mk hl
 have hu210 := Try.underlying210
 have hu208 := Try.underlying208
 have hu24 := Try.underlying24
 clear hE hC hr hc hF hl hx0 hz0
 go_enter Try.func79, Try.ntmps79
 go_wp2_with (first
  | (go_at_call 118; refine (HE.out _).mono ?_; rintro e w1 ⟨rfl, hb⟩; have HB := Aside0.mk hb; have HR1 := Aside0.mk (Kd.C_below HR.out hb); clear hb)
  | (go_at_call 27; refine (HC.out _ _ _ HR1.out HL.out).mono ?_; rintro e w2 ⟨rfl, hb⟩; have HB2 := Aside0.mk (HB.out.trans (hb.mono HB.out.size)); have HR2 := Aside0.mk (Kd.C_below HR1.out hb); clear hb)
  | ((with_reducible refine gate_dst (N := 26) rfl ?_); go_loud (refine box_event ?hg (N := 26) ?hd (cs := (lp_cells (lp_zero n h.length)).toArray) (t := 210) ?hr ?_; (case hd => rfl); (case hg => rfl); (case hr => first | (go_simp; done) | (go_simp; rfl)); intro g hg w3 hbox hb; have GG := Aside0.mk hg; have LA3 := Aside0.mk (lp_zero_at n h.length HN.out hbox); have HB3 := Aside0.mk (HB2.out.trans (hb.mono HB2.out.size)); have HR3 := Aside0.mk (Kd.C_below HR2.out hb); clear hb hbox hg))
  | ((with_reducible refine gate_dst (N := 32) rfl ?_); go_loud (refine lp_copy_event rfl (.tmp 30) (.tmp 31) 24 rfl Try.underlying24 (by kernel_rfl) g _ h (some ad) c 64 rfl rfl LA3.out HR3.out HN.out ?_; intro w4 l1 l2 l3; have LA4 := Aside0.mk l1; have HB4 := Aside0.mk (l3 w (by have := GG.out; have := HB2.out.size; omega) HB3.out); clear l1 l2 l3; have hx4 : w4.cell? ad = some (.complex .f64 z0.1 z0.2) := (HB4.out.cell (World.block_lt_of_cell? w _ HX.out)).trans HX.out; have hx5 : w4.cell? (ad.add 0) = some (.complex .f64 z0.1 z0.2) := hx4))
  | (go_at_call 108; refine (HF.out _).mono ?_; rintro e w5 ⟨rfl, hb⟩; have LA5 := Aside0.mk (LA4.out.below hb); have HB5 := Aside0.mk (HB4.out.trans (hb.mono HB4.out.size)); clear hb; have hc131 : w5.cell? ⟨g, 131, none⟩ = some (.float .f64 0) := (LA5.out.tail 2).trans rfl; have hf131 := LA5.out.frozen 131; have hc132 : w5.cell? ⟨g, 132, none⟩ = some (.int .i64 0) := (LA5.out.tail 3).trans rfl; have hf132 := LA5.out.frozen 132))
 go_ret2
 have hge : w.heap.size ≤ g := by have := GG.out; have := HB2.out.size; omega
 exact ⟨g, by first | rfl | (simp [go_sem]; done), (LA5.out.by' b).q' q, hge, below_set (below_set HB5.out hge) hge⟩
section
variable {P : Program} {ops : Array Oper} {o : Oper} {a : Act} {Q : Exit → Act → World → Prop} {Kc : Act → World → Prop} {W : World} {α : Type}
theorem R_makec_step (d : Kd α) {w0 : World} (base e : Nat) (hw : Region.wanted o (yielded ops a.tmps) = true) {N : Tmp} (_hd : o.dst = some N) (t : TypeId) (x y : Operand) (ho : o.op = .makeSlice t x y) (n m : Int) (hx : a.eval x = .int .i64 n) (hy : a.eval y = .int .i64 m)
  (ht : P.underlying t = some (.slice e)) (z : Value) (bytes : Nat) (hinfo : (P.info? e).map (fun i => (i.zero, i.size, i.bytes)) = some (some z, d.sz, bytes)) (hz : z.cells.size = d.sz) (hs0 : 0 < d.sz) (hb0 : 0 < bytes)
  (z0 : α) {ok okp : Nat → Prop} (hzero : d.M W base okp z0 z.cells.toList) (hok : ∀ k, okp k → ok k) (hfresh : ok W.heap.size) (h0 : 0 ≤ n) (hnm : n ≤ m) (hl : m.toNat * bytes ≤ 281474976710656) (HB : Below base w0 W) (hbase : base ≤ W.heap.size)
  (h : ∀ v1 w1, d.R e w1 base ok v1 (List.replicate n.toNat z0) → Below base w0 w1 → W.grownBy w1 none → (∃ b, v1.ownBlock = some b ∧ W.heap.size ≤ b) → Kc (a.put o.dst v1) w1) : if Region.wanted o (yielded ops a.tmps) = true then Oper.wp P o a W Kc Q else Kc (a.put o.dst undef) W := by
 obtain ⟨k, rfl⟩ := Int.eq_ofNat_of_zero_le h0
 obtain ⟨l, rfl⟩ := Int.eq_ofNat_of_zero_le (Int.le_trans h0 hnm)
 simp only [Int.toNat_natCast] at hl h
 obtain ⟨i0, hi, hzz⟩ := Option.map_eq_some_iff.1 hinfo
 simp only [Prod.mk.injEq] at hzz
 obtain ⟨hz0, hz1, hz2⟩ := hzz
 have hm : l ≤ 281474976710656 := Nat.le_trans (Nat.le_mul_of_pos_right _ hb0) hl
 have hr := run_make (P := P) W t e i0 z ht hi hz0 .i64 .i64 (k : Int) (l : Int) (by omega) (by omega)
  (by
   have h3 : ((i0.bytes * l : Nat) : Int) ≤ 281474976710656 := by rw [hz2, Nat.mul_comm]; omega
   rwa [Int.natCast_mul] at h3) (by omega)
 simp only [Int.toNat_natCast] at hr
 rw [hz1] at hr
 have hrep := Kd.reps_made hz hs0 hzero l
 have key : d.R e (W.alloc (.cells (madeCells z.cells (l * d.sz)) e)) base ok (.slice (some ⟨W.heap.size, 0, none⟩) l l) (List.replicate l z0) := by
  refine ⟨fun k hk => ?_, (madeCells z.cells (l * d.sz)).toList, ?_, ?_⟩
  ·have : W.heap.size = k := by simpa [Value.ownBlock] using hk
   subst this
   exact hfresh
  ·have h2 := World.ownsRow_lit (base := base) (e := e) (size := d.sz) W (madeCells z.cells (l * d.sz)) l hbase (by simp [maxLen]; omega) (by simp [size_madeCells])
   simpa using h2
  ·refine hrep.imp_ (fun p c hp => d.M_mono (fun k hk => ⟨hok k hk.1, fun he => ?_⟩) (Kd.M_below (d.M_bound hp) (below_alloc (Below.refl _ _) _)))
   have h3 : k = W.heap.size := by simpa [Value.ownBlock] using he
   have := hk.2.2.1
   omega
 have key2 := Kd.R_take (m := k) key (by rw [List.length_replicate]; omega)
 rw [List.take_replicate, Nat.min_eq_left (by omega)] at key2
 have hrun : (execOp a.eval o).run P W = .ok (.value (.slice (some ⟨W.heap.size, 0, none⟩) k l)) (W.alloc (.cells (madeCells z.cells (l * d.sz)) e)) := by
  simp [execOp, ho, hx, hy, hr]
 exact event_step hw hrun (h _ _ key2 (HB.alloc hbase _) (World.grownBy_alloc W _ none) ⟨W.heap.size, by simp [Value.ownBlock], Nat.le_refl _⟩)
end
set_option maxHeartbeats 8000000 in
set_option maxRecDepth 100000 in
theorem lp_times_calls (a0 : (Nat × Nat)) (a1 : (Nat × Nat)) (r1 : Nat) (r2 : Nat) (w : World) (h : feedback_times.f a0 a1 = some (r1, r2)) :
  Calls Try.prog 107 #[.complex .f64 a0.1 a0.2, .complex .f64 a1.1 a1.2] w fun e w' => e = .returned (.tuple #[.float .f64 r1, .float .f64 r2]) ∧ Drawn0 w w' := by
 have HB := Aside0.mk (Below.refl w.heap.size w)
 have H : ((floatBits .mul .f64 a0.1 a1.1).bind fun t197 => ((floatBits .mul .f64 a0.2 a1.2).bind fun t198 => ((floatBits .sub .f64 t197 t198).bind fun t199 => ((floatBits .mul .f64 a0.1 a1.2).bind fun t200 => ((floatBits .mul .f64 a0.2 a1.1).bind fun t201 => ((floatBits .add .f64 t200 t201).bind fun t202 => (some (t199, t202)))))))) = some (r1, r2) := h
 clear h
 replace H := Option.bind_eq_some_iff.mp H
 obtain ⟨t197, A30, H⟩ := H
 replace H : ((floatBits .mul .f64 a0.2 a1.2).bind fun t198 => ((floatBits .sub .f64 t197 t198).bind fun t199 => ((floatBits .mul .f64 a0.1 a1.2).bind fun t200 => ((floatBits .mul .f64 a0.2 a1.1).bind fun t201 => ((floatBits .add .f64 t200 t201).bind fun t202 => (some (t199, t202))))))) = some (r1, r2) := H
 have A3 := Aside0.mk A30
 clear A30
 replace H := Option.bind_eq_some_iff.mp H
 obtain ⟨t198, A40, H⟩ := H
 replace H : ((floatBits .sub .f64 t197 t198).bind fun t199 => ((floatBits .mul .f64 a0.1 a1.2).bind fun t200 => ((floatBits .mul .f64 a0.2 a1.1).bind fun t201 => ((floatBits .add .f64 t200 t201).bind fun t202 => (some (t199, t202)))))) = some (r1, r2) := H
 have A4 := Aside0.mk A40
 clear A40
 replace H := Option.bind_eq_some_iff.mp H
 obtain ⟨t199, A50, H⟩ := H
 replace H : ((floatBits .mul .f64 a0.1 a1.2).bind fun t200 => ((floatBits .mul .f64 a0.2 a1.1).bind fun t201 => ((floatBits .add .f64 t200 t201).bind fun t202 => (some (t199, t202))))) = some (r1, r2) := H
 have A5 := Aside0.mk A50
 clear A50
 replace H := Option.bind_eq_some_iff.mp H
 obtain ⟨t200, A60, H⟩ := H
 replace H : ((floatBits .mul .f64 a0.2 a1.1).bind fun t201 => ((floatBits .add .f64 t200 t201).bind fun t202 => (some (t199, t202)))) = some (r1, r2) := H
 have A6 := Aside0.mk A60
 clear A60
 replace H := Option.bind_eq_some_iff.mp H
 obtain ⟨t201, A70, H⟩ := H
 replace H : ((floatBits .add .f64 t200 t201).bind fun t202 => (some (t199, t202))) = some (r1, r2) := H
 have A7 := Aside0.mk A70
 clear A70
 replace H := Option.bind_eq_some_iff.mp H
 obtain ⟨t202, A80, H⟩ := H
 replace H : (some (t199, t202)) = some (r1, r2) := H
 have A8 := Aside0.mk A80
 clear A80
 simp only [Option.some.injEq, Prod.mk.injEq] at H
 obtain ⟨rfl, rfl⟩ := H
 have hfoA3_ := fun (t_ : TypeId) (w_ : World) => run_float_arith (P := Try.prog) w_ .mul t_ .f64 a0.1 a1.1 t197 A3.out
 have hfoA4_ := fun (t_ : TypeId) (w_ : World) => run_float_arith (P := Try.prog) w_ .mul t_ .f64 a0.2 a1.2 t198 A4.out
 have hfoA5_ := fun (t_ : TypeId) (w_ : World) => run_float_arith (P := Try.prog) w_ .sub t_ .f64 t197 t198 t199 A5.out
 have hfoA6_ := fun (t_ : TypeId) (w_ : World) => run_float_arith (P := Try.prog) w_ .mul t_ .f64 a0.1 a1.2 t200 A6.out
 have hfoA7_ := fun (t_ : TypeId) (w_ : World) => run_float_arith (P := Try.prog) w_ .mul t_ .f64 a0.2 a1.1 t201 A7.out
 have hfoA8_ := fun (t_ : TypeId) (w_ : World) => run_float_arith (P := Try.prog) w_ .add t_ .f64 t200 t201 t202 A8.out
 go_enter Try.func107, Try.ntmps107
 go_wp2
 go_ret2
 exact ⟨by first | rfl | (simp [errW_none, errW_some] <;> rfl) | (simp [*, errW_none, errW_some] <;> rfl), by repeat (first | exact Drawn0.refl _ | apply Drawn0.step)⟩
theorem lp_times : LpTimes := fun a b r w h => lp_times_calls a b r.1 r.2 w h
theorem lp_chk (k : Nat) (x : S101) (c1 c2 : Int) (h : grid_Check.f k [x] = some (c1, c2)) : LpChk x c1 c2 := fun A c w hC hc => grid_Check.calls k A c [x] c1 c2 w hC hc h
theorem lp_step_calls (k : Nat) (s s' : Lp) (x : S101) (d : S83) (e : Int) (g : Nat) (w : World) (h : LpAt w g s) (hs : lp_step k s x = some (d, e, s')) :
  Calls Try.prog 82 #[.pointer (some ⟨g, 0, none⟩), .agg #[.complex .f64 x.f0.1 x.f0.2, .bool x.f1]] w fun e' w' => e' = .returned (.tuple #[.agg #[.int .i64 d.f0, .complex .f64 d.f1.1 d.f1.2, .bool d.f2], .int .i64 e]) ∧ LpAt w' g s' ∧ Kb w w' g := by
 unfold lp_step at hs
 obtain ⟨⟨c1, c2⟩, hc, hs⟩ := Option.bind_eq_some_iff.1 hs
 by_cases q : c2 = 0
 ·subst q
  rw [if_pos rfl] at hs
  by_cases q1 : s.broken = true
  ·rw [if_pos q1] at hs
   injection hs with hs
   injection hs with h1 hs
   injection hs with h2 h3
   subst h1 h2 h3
   exact lp_broken s x c1 q1 g w h (lp_chk k x c1 0 hc)
  ·rw [if_neg q1] at hs
   rw [Bool.not_eq_true] at q1
   by_cases q2 : x.f1 = true
   ·rw [if_pos q2] at hs
    injection hs with hs
    injection hs with h1 hs
    injection hs with h2 h3
    subst h1 h2 h3
    exact lp_lost s x c1 q1 q2 g w h (lp_chk k x c1 0 hc)
   ·rw [if_neg q2] at hs
    rw [Bool.not_eq_true] at q2
    obtain ⟨⟨re, im⟩, ha, hs⟩ := Option.bind_eq_some_iff.1 hs
    obtain ⟨z, ht, hs⟩ := Option.bind_eq_some_iff.1 hs
    obtain ⟨b1, hb1, hs⟩ := Option.bind_eq_some_iff.1 hs
    obtain ⟨b2, hb2, hs⟩ := Option.bind_eq_some_iff.1 hs
    obtain ⟨⟨r1, r2, r3, r4⟩, hd, hs⟩ := Option.bind_eq_some_iff.1 hs
    injection hs with hs
    injection hs with h1 hs
    injection hs with h2 h3
    subst h1 h2 h3
    exact lp_full s x c1 re im b1 b2 z r1 r2 r3 r4 g w h (lp_chk k x c1 0 hc) q1 q2 ha (fun w => feedback_turned.calls k (re, im) s.q z w ht) hb1 hb2 (fun w => slice_Decide.calls k s.size (b1, b2) r1 r2 r3 r4 w hd) lp_times
 ·rw [if_neg q] at hs
  injection hs with hs
  injection hs with h1 hs
  injection hs with h2 h3
  subst h1 h2 h3
  exact lp_bad s x c1 c2 q g w h (lp_chk k x c1 c2 hc)
theorem LpAt.grown {w w1 : World} {g : Nat} {s : Lp} {row : Option Nat} (h : LpAt w g s) (hg : w.grownBy w1 row) (hne : row ≠ some g) : LpAt w1 g s := ⟨h.ht, h.hp, h.hn, h.hpos, blk_grown h.blk hg (Ne.symm hne)⟩
abbrev LpNew (n : Int) (h : List (Nat × Nat)) (s0 : Lp) : Prop := ∀ (A : Option Addr) (c : Nat) (w : World), Kd.C Kd.cplx w A h.length h → h.length ≤ c → Calls Try.prog 79 #[.int .i64 n, .slice A h.length c] w fun e w' => ∃ g, e = .returned (.tuple #[.pointer (some ⟨g, 0, none⟩), .int .i64 0]) ∧ LpAt w' g s0 ∧ w.heap.size ≤ g ∧ Below w.heap.size w w'
abbrev LpNewNo (n : Int) (h : List (Nat × Nat)) (r : Int) : Prop := ∀ (A : Option Addr) (c : Nat) (w : World), Kd.C Kd.cplx w A h.length h → h.length ≤ c → Calls Try.prog 79 #[.int .i64 n, .slice A h.length c] w fun e w' => e = .returned (.tuple #[.pointer none, .int .i64 r]) ∧ Below w.heap.size w w'
abbrev LpRows (row : List S101) (c1 c2 : Int) : Prop := ∀ (A : Option Addr) (c : Nat) (w : World), Kd.C k101 w A row.length row → row.length ≤ c → Calls Try.prog 129 #[.slice A row.length c] w fun e w' => e = .returned (.tuple #[.int .i64 c1, .int .i64 c2]) ∧ Below w.heap.size w w'
set_option maxHeartbeats 8000000 in
set_option maxRecDepth 100000 in
theorem lp_run_no1 (n : Int) (h : List (Nat × Nat)) (row : List S101) (r : Int) (h2 : r ≠ 0) (hN : LpNewNo n h r) (A1 : Option Addr) (c1 : Nat) (A2 : Option Addr) (c2 : Nat) (w : World) (hr1 : Kd.C Kd.cplx w A1 h.length h) (hc1 : h.length ≤ c1) (hr2 : Kd.C k101 w A2 row.length row) (hc2 : row.length ≤ c2) :
  Calls Try.prog 139 #[.int .i64 n, .slice A1 h.length c1, .slice A2 row.length c2] w fun e w' => e = .returned (.tuple #[.slice none 0 0, .slice none 0 0, .int .i64 r]) ∧ Below w.heap.size w w' := by
 have HR1 := Aside0.mk hr1
 have HC1 := Aside0.mk hc1
 have HR2 := Aside0.mk hr2
 have HC2 := Aside0.mk hc2
 have HN := Aside0.mk hN
 have p2 : (r != 0) = true := by simp [h2]
 clear h2 hN hr1 hc1 hr2 hc2
 go_enter Try.func139, Try.ntmps139
 go_wp2_with (first
  | (go_at_call 79; refine (HN.out _ _ _ HR1.out HC1.out).mono ?_; rintro e w1 ⟨rfl, hb⟩; have HB := Aside0.mk hb; clear hb))
 go_ret3
 exact ⟨by first | rfl | (simp [go_sem]; done), by repeat (first | exact HB.out | apply below_alloc | apply pw_below_drewN)⟩
set_option maxHeartbeats 8000000 in
set_option maxRecDepth 100000 in
theorem lp_run_no2 (n : Int) (h : List (Nat × Nat)) (row : List S101) (s0 : Lp) (q1 r : Int) (h2 : r ≠ 0) (hN : LpNew n h s0) (hG : LpRows row q1 r) (A1 : Option Addr) (c1 : Nat) (A2 : Option Addr) (c2 : Nat) (w : World) (hr1 : Kd.C Kd.cplx w A1 h.length h) (hc1 : h.length ≤ c1) (hr2 : Kd.C k101 w A2 row.length row) (hc2 : row.length ≤ c2) :
  Calls Try.prog 139 #[.int .i64 n, .slice A1 h.length c1, .slice A2 row.length c2] w fun e w' => e = .returned (.tuple #[.slice none 0 0, .slice none 0 0, .int .i64 r]) ∧ Below w.heap.size w w' := by
 have HR1 := Aside0.mk hr1
 have HC1 := Aside0.mk hc1
 have HR2 := Aside0.mk hr2
 have HC2 := Aside0.mk hc2
 have HN := Aside0.mk hN
 have HG := Aside0.mk hG
 have p2 : (r != 0) = true := by simp [h2]
 clear h2 hN hG hr1 hc1 hr2 hc2
 go_enter Try.func139, Try.ntmps139
 go_wp2_with (first
  | (go_at_call 79; refine (HN.out _ _ _ HR1.out HC1.out).mono ?_; rintro e w1 ⟨g, rfl, l1, l2, hb⟩; have HB := Aside0.mk hb; have HR2' := Aside0.mk (Kd.C_below HR2.out hb); clear hb l1 l2)
  | (go_at_call 129; refine (HG.out _ _ _ HR2'.out HC2.out).mono ?_; rintro e w2 ⟨rfl, hb⟩; have HB2 := Aside0.mk (HB.out.trans (hb.mono HB.out.size)); clear hb))
 go_ret3
 exact ⟨by first | rfl | (simp [go_sem]; done), by repeat (first | exact HB2.out | apply below_alloc | apply pw_below_drewN)⟩
set_option maxHeartbeats 8000000 in
set_option maxRecDepth 100000 in
theorem lp_run_yes (n : Int) (h : List (Nat × Nat)) (row : List S101) (s0 : Lp) (q1 : Int) (k : Nat) (r1 : List S83) (r2 : List (Nat × Nat)) (hrow : row.length ≤ 65536) (hN : LpNew n h s0) (hG : LpRows row q1 0) (hrun : lp_run k row s0 [] [] = some (r1, r2)) (A1 : Option Addr) (c1 : Nat) (A2 : Option Addr) (c2 : Nat) (w : World) (hr1 : Kd.C Kd.cplx w A1 h.length h) (hc1 : h.length ≤ c1) (hr2 : Kd.C k101 w A2 row.length row) (hc2 : row.length ≤ c2) :
  Calls Try.prog 139 #[.int .i64 n, .slice A1 h.length c1, .slice A2 row.length c2] w fun e w' => ∃ v0_ v1_ : Value, e = .returned (.tuple #[v0_, v1_, .int .i64 0]) ∧ Kd.R k83 83 w' w.heap.size (fun _ => True) v0_ r1 ∧ Kd.R Kd.cplx 32 w' w.heap.size (fun _ => True) v1_ r2 ∧ Below w.heap.size w w' := by
 have HR1 := Aside0.mk hr1
 have HC1 := Aside0.mk hc1
 have HR2 := Aside0.mk hr2
 have HC2 := Aside0.mk hc2
 have HN := Aside0.mk hN
 have HG := Aside0.mk hG
 have HRUN := Aside0.mk hrun
 have HROW := Aside0.mk hrow
 have hu83 := Try.underlying83
 have hu101 := Try.underlying101
 have hu208 := Try.underlying208
 have hu210 := Try.underlying210
 clear hN hG hr1 hc1 hr2 hc2 hrun
 go_enter Try.func139, Try.ntmps139
 go_wp2_with (first
  | (go_at_call 79; refine (HN.out _ _ _ HR1.out HC1.out).mono ?_; rintro e w1 ⟨g, rfl, l1, l2, hb⟩; have HB := Aside0.mk hb; have LA1 := Aside0.mk l1; have GG := Aside0.mk l2; have HR2' := Aside0.mk (Kd.C_below HR2.out hb); clear hb l1 l2)
  | (go_at_call 129; refine (HG.out _ _ _ HR2'.out HC2.out).mono ?_; rintro e w2 ⟨rfl, hb⟩; have HB2 := Aside0.mk (HB.out.trans (hb.mono HB.out.size)); have LA2 := Aside0.mk (LA1.out.below hb); clear hb))
 have LAd := Aside0.mk LA2.out.drew
 have HBd := Aside0.mk (below_drew HB2.out)
 refine start_ (n := 8) (S := fun w' => True) (ds := []) #[false, false, false, false, false, false, false, false] (by kernel_rfl) rfl rfl trivial (fun hHeld => ?_)
 refine pure_ (i := 0) (N := some 37) (v := ?_) (a' := ?_) #[true, false, false, false, false, false, false, false] rfl rfl (by kernel_rfl) (fun _ _ _ h => h) (Or.inl ⟨by rfl, ?_⟩) ?_ ?_
 rotate_left
 ·intro w'
  go_simp
  with_reducible rfl
 rotate_left
 ·simp only [Act.put, List.setIfInBounds_toArray, List.set_cons_zero, List.set_cons_succ, i64_w, i32_w]
  rfl
 refine pure_ (i := 1) (N := some 38) (v := ?_) (a' := ?_) #[true, true, false, false, false, false, false, false] rfl rfl (by kernel_rfl) (fun _ _ _ h => h) (Or.inl ⟨by rfl, ?_⟩) ?_ ?_
 rotate_left
 ·intro w'
  go_simp
  with_reducible rfl
 rotate_left
 ·simp only [Act.put, List.setIfInBounds_toArray, List.set_cons_zero, List.set_cons_succ, i64_w, i32_w]
  rfl
 refine pure_ (i := 3) (N := some 40) (v := ?_) (a' := ?_) #[true, true, false, true, false, false, false, false] rfl rfl (by kernel_rfl) (fun _ _ _ h => h) (Or.inl ⟨by rfl, ?_⟩) ?_ ?_
 rotate_left
 ·intro w'
  go_simp
  with_reducible rfl
 rotate_left
 ·simp only [Act.put, List.setIfInBounds_toArray, List.set_cons_zero, List.set_cons_succ, i64_w, i32_w]
  rfl
 refine pure_ (i := 4) (N := some 41) (v := ?_) (a' := ?_) #[true, true, false, true, true, false, false, false] rfl rfl (by kernel_rfl) (fun _ _ _ h => h) (Or.inl ⟨by rfl, ?_⟩) ?_ ?_
 rotate_left
 ·intro w'
  go_simp
  with_reducible rfl
 rotate_left
 ·simp only [Act.put, List.setIfInBounds_toArray, List.set_cons_zero, List.set_cons_succ, i64_w, i32_w]
  rfl
 refine join_ (σ := Value × Value) 1 #[true, true, true, true, true, true, true, false] (fun p => [(39, p.1), (13, p.1), (42, p.2)]) (fun p w' => Kd.R k83 83 w' w.heap.size (fun k_ => k_ ≠ g) p.1 [] ∧ Kd.R Kd.cplx 32 w' w.heap.size (fun k_ => k_ ≠ g) p.2 [] ∧ LpAt w' g s0 ∧ Below w.heap.size w w') ?_ ?_
 rotate_left
 ·intro hCont
  refine two_ (i := 2) (j := 5) (Ni := some 39) (Nj := some 42) #[true, true, true, true, true, false, false, false] #[true, true, false, true, true, true, false, false] rfl rfl rfl rfl (by kernel_rfl) (by decide) (by decide) (fun K hK => ?_) (fun K hK => ?_)
  ·skip
   refine R_makec_step k83 (w0 := w) w.heap.size 83 (by rfl) (N := 39) rfl 121 _ _ rfl 0 (row.length : Int) rfl rfl Try.underlying121 (.agg #[(.int .i64 0), (.complex .f64 0 0), (.bool false)]) 32 info83 rfl (by decide) (by omega) z83 (ok := fun k_ => k_ ≠ g) (okp := fun _ => False) (k83_mkM _ _ _ z83) (fun _ hk => hk.elim) (Nat.ne_of_gt LAd.out.lt) (Int.le_refl 0) (by omega) (by omega) HBd.out (HBd.out.size) ?_
   intro vo wa ho hb hg hn
   have LAa := Aside0.mk (LAd.out.grown hg (by simp))
   have HBa := Aside0.mk hb
   have HRo := Aside0.mk ho
   clear ho hb hg hn
   refine hK.out _ _ trivial (fun hHeld => ?_)
   clear hK K
   refine norm_ (a' := ?_) ?_ ?_
   rotate_left
   ·show Act.put _ (some 39) _ = _
    simp only [Act.put, List.setIfInBounds_toArray, List.set_cons_zero, List.set_cons_succ, i64_w, i32_w]
    rfl
   refine pure_ (i := 6) (N := some 13) (v := ?_) (a' := ?_) #[true, true, true, true, true, false, true, false] rfl rfl (by kernel_rfl) (fun _ _ _ h => h) (Or.inl ⟨by rfl, ?_⟩) ?_ ?_
   rotate_left
   ·intro w'
    go_simp
    with_reducible rfl
   rotate_left
   ·simp only [Act.put, List.setIfInBounds_toArray, List.set_cons_zero, List.set_cons_succ, i64_w, i32_w]
    rfl
   refine one_ (i := 5) (N := some 42) #[true, true, true, true, true, true, true, false] rfl rfl (by kernel_rfl) (by decide) (fun K hK => ?_)
   refine R_makec_step Kd.cplx (w0 := w) w.heap.size 32 (by rfl) (N := 42) rfl 24 _ _ rfl 0 (row.length : Int) rfl rfl Try.underlying24 (.complex .f64 0 0) 16 info32 rfl (by decide) (by omega) ((0, 0) : Nat × Nat) (ok := fun k_ => k_ ≠ g) (okp := fun _ => False) rfl (fun _ hk => hk.elim) (Nat.ne_of_gt LAa.out.lt) (Int.le_refl 0) (by omega) (by omega) HBa.out (HBa.out.size) ?_
   intro vf wb ho hb hg hn
   have LAb := Aside0.mk (LAa.out.grown hg (by simp))
   have HBb := Aside0.mk hb
   have HRf := Aside0.mk ho
   have HRo2 := Aside0.mk (Kd.R_keep HRo.out (KeepBut.of_grown hg g) (fun _ h => h))
   clear ho hb hg hn
   refine hK.out _ _ trivial (fun hHeld => ?_)
   clear hK K
   refine norm_ (a' := ?_) ?_ ?_
   rotate_left
   ·show Act.put _ (some 42) _ = _
    simp only [Act.put, List.setIfInBounds_toArray, List.set_cons_zero, List.set_cons_succ, i64_w, i32_w]
    rfl
   exact norm_ (by simp only [putAll, Act.put, List.setIfInBounds_toArray, List.set_cons_zero, List.set_cons_succ]) (hCont (vo, vf) _ ⟨HRo2.out, HRf.out, LAb.out, HBb.out⟩)
  ·skip
   refine R_makec_step Kd.cplx (w0 := w) w.heap.size 32 (by rfl) (N := 42) rfl 24 _ _ rfl 0 (row.length : Int) rfl rfl Try.underlying24 (.complex .f64 0 0) 16 info32 rfl (by decide) (by omega) ((0, 0) : Nat × Nat) (ok := fun k_ => k_ ≠ g) (okp := fun _ => False) rfl (fun _ hk => hk.elim) (Nat.ne_of_gt LAd.out.lt) (Int.le_refl 0) (by omega) (by omega) HBd.out (HBd.out.size) ?_
   intro vf wa ho hb hg hn
   have LAa := Aside0.mk (LAd.out.grown hg (by simp))
   have HBa := Aside0.mk hb
   have HRf := Aside0.mk ho
   clear ho hb hg hn
   refine hK.out _ _ trivial (fun hHeld => ?_)
   clear hK K
   refine norm_ (a' := ?_) ?_ ?_
   rotate_left
   ·show Act.put _ (some 42) _ = _
    simp only [Act.put, List.setIfInBounds_toArray, List.set_cons_zero, List.set_cons_succ, i64_w, i32_w]
    rfl
   refine one_ (i := 2) (N := some 39) #[true, true, true, true, true, true, false, false] rfl rfl (by kernel_rfl) (by decide) (fun K hK => ?_)
   refine R_makec_step k83 (w0 := w) w.heap.size 83 (by rfl) (N := 39) rfl 121 _ _ rfl 0 (row.length : Int) rfl rfl Try.underlying121 (.agg #[(.int .i64 0), (.complex .f64 0 0), (.bool false)]) 32 info83 rfl (by decide) (by omega) z83 (ok := fun k_ => k_ ≠ g) (okp := fun _ => False) (k83_mkM _ _ _ z83) (fun _ hk => hk.elim) (Nat.ne_of_gt LAa.out.lt) (Int.le_refl 0) (by omega) (by omega) HBa.out (HBa.out.size) ?_
   intro vo wb ho hb hg hn
   have LAb := Aside0.mk (LAa.out.grown hg (by simp))
   have HBb := Aside0.mk hb
   have HRo := Aside0.mk ho
   have HRf2 := Aside0.mk (Kd.R_keep HRf.out (KeepBut.of_grown hg g) (fun _ h => h))
   clear ho hb hg hn
   refine hK.out _ _ trivial (fun hHeld => ?_)
   clear hK K
   refine norm_ (a' := ?_) ?_ ?_
   rotate_left
   ·show Act.put _ (some 39) _ = _
    simp only [Act.put, List.setIfInBounds_toArray, List.set_cons_zero, List.set_cons_succ, i64_w, i32_w]
    rfl
   refine pure_ (i := 6) (N := some 13) (v := ?_) (a' := ?_) #[true, true, true, true, true, true, true, false] rfl rfl (by kernel_rfl) (fun _ _ _ h => h) (Or.inl ⟨by rfl, ?_⟩) ?_ ?_
   rotate_left
   ·intro w'
    go_simp
    with_reducible rfl
   rotate_left
   ·simp only [Act.put, List.setIfInBounds_toArray, List.set_cons_zero, List.set_cons_succ, i64_w, i32_w]
    rfl
   exact norm_ (by simp only [putAll, Act.put, List.setIfInBounds_toArray, List.set_cons_zero, List.set_cons_succ]) (hCont (vo, vf) _ ⟨HRo.out, HRf2.out, LAb.out, HBb.out⟩)
 rintro ⟨vo, vf⟩ wy ⟨l1, l2, l3, l4⟩
 have HO := Aside0.mk l1
 have HF := Aside0.mk l2
 have LAy := Aside0.mk l3
 have HBy := Aside0.mk l4
 clear l1 l2 l3 l4
 have hHeld : True := trivial
 refine norm_ (a' := ?_) ?_ ?_
 rotate_left
 ·simp only [putAll, Act.put, List.setIfInBounds_toArray, List.set_cons_zero, List.set_cons_succ]
  rfl
 refine pure_ (i := 7) (N := some 14) (v := ?_) (a' := ?_) #[true, true, true, true, true, true, true, true] rfl rfl (by kernel_rfl) (fun _ _ _ h => h) (Or.inl ⟨by rfl, ?_⟩) ?_ ?_
 rotate_left
 ·intro w'
  go_simp
  with_reducible rfl
 rotate_left
 ·simp only [Act.put, List.setIfInBounds_toArray, List.set_cons_zero, List.set_cons_succ, i64_w, i32_w]
  rfl
 refine done_ (by kernel_rfl) ?_
 clear LA1 LA2 HB HB2 LAd HBd
 go_wp2
 go_loopg [13, 14, 45] (row.length + 1) (fun kq v13 v14 v45 w' => ∃ (i : Nat) (s : Lp) (o1 : List S83) (o2 : List (Nat × Nat)), v45 = .int .i64 (i : Int) ∧ Aside0 (i + kq = row.length + 1) ∧ Aside0 (i ≤ row.length ∧ o1.length ≤ i ∧ o2.length ≤ i) ∧ Aside0 (lp_run k (row.drop i) s o1 o2 = some (r1, r2)) ∧ Aside0 (Kd.R k83 83 w' w.heap.size (fun k_ => k_ ≠ g) v13 o1) ∧ Aside0 (Kd.R Kd.cplx 32 w' w.heap.size (fun k_ => k_ ≠ g) v14 o2) ∧ Aside0 (LpAt w' g s) ∧ Aside0 (Below w.heap.size w w'))
 case atStart => exact ⟨0, s0, [], [], rfl, ⟨by omega⟩, ⟨Nat.zero_le _, Nat.le_refl _, Nat.le_refl _⟩, HRUN, HO, HF, LAy, HBy⟩
 case round =>
  clear HO HF LAy HBy HRUN
  obtain ⟨i, s, o1, o2, rfl, HI, HL, HRUN, HO, HF, LAr, HBr⟩ := hrel
  cases gk with
  | zero => have := HI.out; have := HL.out; omega
  | succ k1 =>
  by_cases hlt : (i : Int) < (row.length : Int)
  ·have hlt' : decide ((i : Int) < (row.length : Int)) = true := decide_eq_true hlt
   have hil : i < row.length := by omega
   have HRr := Aside0.mk (Kd.C_below HR2.out HBr.out)
   obtain ⟨x, hx⟩ : ∃ x, x = row[i] := ⟨_, rfl⟩
   have hR := HRUN.out
   rw [List.drop_eq_getElem_cons hil, ← hx, lp_run] at hR
   obtain ⟨⟨⟨d0, d1, d2⟩, e0, s'⟩, hs, hR⟩ := Option.bind_eq_some_iff.1 hR
   obtain ⟨z, hz, hR⟩ := Option.bind_eq_some_iff.1 hR
   have HS := Aside0.mk hs
   have HZ := Aside0.mk hz
   have HRN := Aside0.mk hR
   obtain ⟨ad2, hA2, hx0, hx1⟩ := at_T101 HRr.out (i : Int) (by omega) hlt
   have hrd : rd_T101 row (i : Int) = x := by unfold rd_T101; rw [Int.toNat_natCast, List.getD_eq_getElem?_getD, List.getElem?_eq_getElem hil, hx]; rfl
   rw [hrd, Int.toNat_natCast] at hx0 hx1
   subst hA2
   have hp0 : (0 ≤ (i : Int)) = True := eq_true (by omega)
   have hp1 : ((i : Int) < (row.length : Int)) = True := eq_true hlt
   clear hs hz hR hx hlt hrd
   cases d2 with
   | true =>
    have HZ' := HZ.out
    rw [lp_z, if_pos rfl] at HZ'
    injection HZ' with HZ'
    subst HZ'
    go_wp2_with (first
      | ((with_reducible refine gate_dst (N := 16) rfl ?_); go_loud (refine box_event ?hg (N := 16) ?hd (cs := #[.complex .f64 0 0, .bool false]) (t := 101) ?hr ?_; (case hd => rfl); (case hg => rfl); (case hr => first | (go_simp; done) | (go_simp; rfl)); intro g16 hg16 w3 hbox hb; have B16 := Aside0.mk hbox; have BL3 := Aside0.mk hb; have G16 := Aside0.mk (Nat.le_of_eq hg16.symm); clear hbox hb hg16; have hce0 : w3.cell? ⟨g16, 0, none⟩ = some (.complex .f64 0 0) := (blk_cell B16.out 0).trans rfl; have hce1 : w3.cell? ⟨g16, 1, none⟩ = some (.bool false) := (blk_cell B16.out 1).trans rfl; have hze0 := blk_frozen B16.out 0; have hze1 := blk_frozen B16.out 1))
      | (go_at_call 82; go_loud (refine (lp_step_calls k s s' x ⟨d0, d1, true⟩ e0 g _ (LAr.out.below (below_set (below_set BL3.out G16.out) G16.out)) HS.out).mono ?_; rintro e' w4 ⟨rfl, l1, l2⟩; have LA4 := Aside0.mk l1; have bl := below_set (j := 1) (v := .bool x.f1) (below_set (j := 0) (v := .complex .f64 x.f0.1 x.f0.2) BL3.out G16.out) G16.out; have HO4 := Aside0.mk (Kd.R_keep (Kd.R_below HO.out bl) l2.keep (fun _ h_ => h_)); have HF4 := Aside0.mk (Kd.R_keep (Kd.R_below HF.out bl) l2.keep (fun _ h_ => h_)); have HB4 := Aside0.mk ((HBr.out.trans (bl.mono HBr.out.size)).trans (l2.low.mono GG.out)); clear l1 l2 bl B16 BL3 G16 hce0 hce1 hze0 hze1))
      | ((with_reducible refine gate_dst (N := 17) rfl ?_); go_loud (refine box_event ?hg (N := 17) ?hd (cs := #[.int .i64 0, .complex .f64 0 0, .bool false]) (t := 83) ?hr ?_; (case hd => rfl); (case hg => rfl); (case hr => first | (go_simp; done) | (go_simp; rfl)); intro g17 hg17 w5 hbox hb; have B17 := Aside0.mk hbox; have BL5 := Aside0.mk hb; have G17 := Aside0.mk (Nat.le_of_eq hg17.symm); have hne17 : g17 ≠ g := (by have := LA4.out.lt; omega); have hnf17 : g ≠ g17 := Ne.symm hne17; have hcb : w5.cell? ⟨g, 135, none⟩ = some (.complex .f64 s'.bare.1 s'.bare.2) := ((LA4.out.below hb).tail 6).trans rfl; clear hbox hb hg17; have hce0 : w5.cell? ⟨g17, 0, none⟩ = some (.int .i64 0) := (blk_cell B17.out 0).trans rfl; have hce1 : w5.cell? ⟨g17, 1, none⟩ = some (.complex .f64 0 0) := (blk_cell B17.out 1).trans rfl; have hce2 : w5.cell? ⟨g17, 2, none⟩ = some (.bool false) := (blk_cell B17.out 2).trans rfl; have hze0 := blk_frozen B17.out 0; have hze1 := blk_frozen B17.out 1; have hze2 := blk_frozen B17.out 2))
      | ((with_reducible refine gate_dst (N := 80) rfl ?_); go_loud (refine Kd.R_append k83 (w0 := w) w.heap.size rfl (.tmp 77) (.tmp 79) 121 83 (.agg #[(.int .i64 0), (.complex .f64 0 0), (.bool false)]) 32 rfl Try.underlying121 info83 rfl (by decide) (by omega) u13 o1 (⟨d0, d1, true⟩ : S83) [.int .i64 d0, .complex .f64 d1.1 d1.2, .bool true] (fun k_ => k_ ≠ g) (fun _ => False) rfl (by first | (go_simp; done) | (go_simp; rfl)) (k83_mkM _ _ _ (⟨d0, d1, true⟩ : S83)) (fun _ hk => hk.elim) ?aF (Kd.R_below HO4.out (by repeat (first | exact BL5.out | apply pw_below_drewN | apply below_drew | refine below_set ?_ G17.out))) (below_step HB4.out (by repeat (first | exact BL5.out | apply pw_below_drewN | apply below_drew | refine below_set ?_ G17.out))) (Below.size (below_step HB4.out (by repeat (first | exact BL5.out | apply pw_below_drewN | apply below_drew | refine below_set ?_ G17.out)))) ?aL ?_; (case aF => intro k_ hk e_; rw [e_] at hk; exact absurd hk (Nat.not_le.2 (LpAt.lt (LpAt.below LA4.out (by repeat (first | exact BL5.out | apply pw_below_drewN | apply below_drew | refine below_set ?_ G17.out)))))); (case aL => have := HL.out; have := HROW.out; omega); intro v6 w6 ho hb hg hat; have LA6 := Aside0.mk (LpAt.grown (LpAt.below LA4.out (by repeat (first | exact BL5.out | apply pw_below_drewN | apply below_drew | refine below_set ?_ G17.out))) hg (fun e_ => HO4.out.1 g e_ rfl)); have HF6 := Aside0.mk (Kd.R_over (Kd.R_below HF4.out (by repeat (first | exact BL5.out | apply pw_below_drewN | apply below_drew | refine below_set ?_ G17.out))) (Kd.R_below HO4.out (by repeat (first | exact BL5.out | apply pw_below_drewN | apply below_drew | refine below_set ?_ G17.out))) (by decide) hg); have HO6 := Aside0.mk ho; have HB6 := Aside0.mk hb; clear ho hb hg hat))
      | ((with_reducible refine gate_dst (N := 84) rfl ?_); go_loud (refine Kd.R_append Kd.cplx (w0 := w) w.heap.size rfl (.tmp 81) (.tmp 83) 24 32 (.complex .f64 0 0) 16 rfl Try.underlying24 info32 rfl (by decide) (by omega) u14 o2 ((0, 0) : Nat × Nat) [.complex .f64 0 0] (fun k_ => k_ ≠ g) (fun _ => False) rfl (by first | (go_simp; done) | (go_simp; rfl)) rfl (fun _ hk => hk.elim) ?aF HF6.out HB6.out HB6.out.size ?aL ?_; (case aF => intro k_ hk; have := LA6.out.lt; omega); (case aL => have := HL.out; have := HROW.out; omega); intro v7 w7 ho hb hg hat; have LA7 := Aside0.mk (LA6.out.grown hg (fun e_ => HF6.out.1 g e_ rfl)); have HO7 := Aside0.mk (Kd.R_over HO6.out HF6.out (by decide) hg); have HF7 := Aside0.mk ho; have HB7 := Aside0.mk hb; clear ho hb hg hat)))
    go_roundg k1
    case measure => omega
    case rel =>
     have hw : wrap64 ((i : Int) + 1) = ((i + 1 : Nat) : Int) := by have := HROW.out; unfold wrap64; omega
     exact ⟨i + 1, s', o1 ++ [⟨d0, d1, true⟩], o2 ++ [((0, 0) : Nat × Nat)], (by first | rfl | exact congrArg (fun y => Value.int .i64 y) hw), ⟨by have := HI.out; omega⟩, ⟨by omega, by have := HL.out; rw [List.length_append]; show o1.length + 1 ≤ i + 1; omega, by have := HL.out; rw [List.length_append]; show o2.length + 1 ≤ i + 1; omega⟩, HRN, HO7, HF7, LA7, HB7⟩
   | false =>
    have HZ2 := HZ.out
    rw [lp_z, if_neg (show ¬ (false = true) by decide)] at HZ2
    obtain ⟨za, hza, HZ2⟩ := Option.bind_eq_some_iff.1 HZ2
    obtain ⟨zb, hzb, HZ2⟩ := Option.bind_eq_some_iff.1 HZ2
    injection HZ2 with HZ2
    have ZA := Aside0.mk hza
    have ZB := Aside0.mk hzb
    subst HZ2
    clear hza hzb
    go_wp2_with (first
      | ((with_reducible refine gate_dst (N := 16) rfl ?_); go_loud (refine box_event ?hg (N := 16) ?hd (cs := #[.complex .f64 0 0, .bool false]) (t := 101) ?hr ?_; (case hd => rfl); (case hg => rfl); (case hr => first | (go_simp; done) | (go_simp; rfl)); intro g16 hg16 w3 hbox hb; have B16 := Aside0.mk hbox; have BL3 := Aside0.mk hb; have G16 := Aside0.mk (Nat.le_of_eq hg16.symm); clear hbox hb hg16; have hce0 : w3.cell? ⟨g16, 0, none⟩ = some (.complex .f64 0 0) := (blk_cell B16.out 0).trans rfl; have hce1 : w3.cell? ⟨g16, 1, none⟩ = some (.bool false) := (blk_cell B16.out 1).trans rfl; have hze0 := blk_frozen B16.out 0; have hze1 := blk_frozen B16.out 1))
      | (go_at_call 82; go_loud (refine (lp_step_calls k s s' x ⟨d0, d1, false⟩ e0 g _ (LAr.out.below (below_set (below_set BL3.out G16.out) G16.out)) HS.out).mono ?_; rintro e' w4 ⟨rfl, l1, l2⟩; have LA4 := Aside0.mk l1; have bl := below_set (j := 1) (v := .bool x.f1) (below_set (j := 0) (v := .complex .f64 x.f0.1 x.f0.2) BL3.out G16.out) G16.out; have HO4 := Aside0.mk (Kd.R_keep (Kd.R_below HO.out bl) l2.keep (fun _ h_ => h_)); have HF4 := Aside0.mk (Kd.R_keep (Kd.R_below HF.out bl) l2.keep (fun _ h_ => h_)); have HB4 := Aside0.mk ((HBr.out.trans (bl.mono HBr.out.size)).trans (l2.low.mono GG.out)); clear l1 l2 bl B16 BL3 G16 hce0 hce1 hze0 hze1))
      | ((with_reducible refine gate_dst (N := 17) rfl ?_); go_loud (refine box_event ?hg (N := 17) ?hd (cs := #[.int .i64 0, .complex .f64 0 0, .bool false]) (t := 83) ?hr ?_; (case hd => rfl); (case hg => rfl); (case hr => first | (go_simp; done) | (go_simp; rfl)); intro g17 hg17 w5 hbox hb; have B17 := Aside0.mk hbox; have BL5 := Aside0.mk hb; have G17 := Aside0.mk (Nat.le_of_eq hg17.symm); have hne17 : g17 ≠ g := (by have := LA4.out.lt; omega); have hnf17 : g ≠ g17 := Ne.symm hne17; have hcb : w5.cell? ⟨g, 135, none⟩ = some (.complex .f64 s'.bare.1 s'.bare.2) := ((LA4.out.below hb).tail 6).trans rfl; clear hbox hb hg17; have hce0 : w5.cell? ⟨g17, 0, none⟩ = some (.int .i64 0) := (blk_cell B17.out 0).trans rfl; have hce1 : w5.cell? ⟨g17, 1, none⟩ = some (.complex .f64 0 0) := (blk_cell B17.out 1).trans rfl; have hce2 : w5.cell? ⟨g17, 2, none⟩ = some (.bool false) := (blk_cell B17.out 2).trans rfl; have hze0 := blk_frozen B17.out 0; have hze1 := blk_frozen B17.out 1; have hze2 := blk_frozen B17.out 2)))
    have hfo1 := fun (t_ : TypeId) (w_ : World) => run_float_arith (P := Try.prog) w_ .sub t_ .f64 s'.bare.1 d1.1 za ZA.out
    have hfo2 := fun (t_ : TypeId) (w_ : World) => run_float_arith (P := Try.prog) w_ .sub t_ .f64 s'.bare.2 d1.2 zb ZB.out
    go_quiet (fail)
    go_wp2_with (first
      | ((with_reducible refine gate_dst (N := 80) rfl ?_); go_loud (refine Kd.R_append k83 (w0 := w) w.heap.size rfl (.tmp 77) (.tmp 79) 121 83 (.agg #[(.int .i64 0), (.complex .f64 0 0), (.bool false)]) 32 rfl Try.underlying121 info83 rfl (by decide) (by omega) u13 o1 (⟨d0, d1, false⟩ : S83) [.int .i64 d0, .complex .f64 d1.1 d1.2, .bool false] (fun k_ => k_ ≠ g) (fun _ => False) rfl (by first | (go_simp; done) | (go_simp; rfl)) (k83_mkM _ _ _ (⟨d0, d1, false⟩ : S83)) (fun _ hk => hk.elim) ?aF (Kd.R_below HO4.out (by repeat (first | exact BL5.out | apply pw_below_drewN | apply below_drew | refine below_set ?_ G17.out))) (below_step HB4.out (by repeat (first | exact BL5.out | apply pw_below_drewN | apply below_drew | refine below_set ?_ G17.out))) (Below.size (below_step HB4.out (by repeat (first | exact BL5.out | apply pw_below_drewN | apply below_drew | refine below_set ?_ G17.out)))) ?aL ?_; (case aF => intro k_ hk e_; rw [e_] at hk; exact absurd hk (Nat.not_le.2 (LpAt.lt (LpAt.below LA4.out (by repeat (first | exact BL5.out | apply pw_below_drewN | apply below_drew | refine below_set ?_ G17.out)))))); (case aL => have := HL.out; have := HROW.out; omega); intro v6 w6 ho hb hg hat; have LA6 := Aside0.mk (LpAt.grown (LpAt.below LA4.out (by repeat (first | exact BL5.out | apply pw_below_drewN | apply below_drew | refine below_set ?_ G17.out))) hg (fun e_ => HO4.out.1 g e_ rfl)); have HF6 := Aside0.mk (Kd.R_over (Kd.R_below HF4.out (by repeat (first | exact BL5.out | apply pw_below_drewN | apply below_drew | refine below_set ?_ G17.out))) (Kd.R_below HO4.out (by repeat (first | exact BL5.out | apply pw_below_drewN | apply below_drew | refine below_set ?_ G17.out))) (by decide) hg); have HO6 := Aside0.mk ho; have HB6 := Aside0.mk hb; clear ho hb hg hat))
      | ((with_reducible refine gate_dst (N := 84) rfl ?_); go_loud (refine Kd.R_append Kd.cplx (w0 := w) w.heap.size rfl (.tmp 81) (.tmp 83) 24 32 (.complex .f64 0 0) 16 rfl Try.underlying24 info32 rfl (by decide) (by omega) u14 o2 ((za, zb) : Nat × Nat) [.complex .f64 za zb] (fun k_ => k_ ≠ g) (fun _ => False) rfl (by first | (go_simp; done) | (go_simp; rfl)) rfl (fun _ hk => hk.elim) ?aF HF6.out HB6.out HB6.out.size ?aL ?_; (case aF => intro k_ hk; have := LA6.out.lt; omega); (case aL => have := HL.out; have := HROW.out; omega); intro v7 w7 ho hb hg hat; have LA7 := Aside0.mk (LA6.out.grown hg (fun e_ => HF6.out.1 g e_ rfl)); have HO7 := Aside0.mk (Kd.R_over HO6.out HF6.out (by decide) hg); have HF7 := Aside0.mk ho; have HB7 := Aside0.mk hb; clear ho hb hg hat)))
    go_roundg k1
    case measure => omega
    case rel =>
     have hw : wrap64 ((i : Int) + 1) = ((i + 1 : Nat) : Int) := by have := HROW.out; unfold wrap64; omega
     exact ⟨i + 1, s', o1 ++ [⟨d0, d1, false⟩], o2 ++ [((za, zb) : Nat × Nat)], (by first | rfl | exact congrArg (fun y => Value.int .i64 y) hw), ⟨by have := HI.out; omega⟩, ⟨by omega, by have := HL.out; rw [List.length_append]; show o1.length + 1 ≤ i + 1; omega, by have := HL.out; rw [List.length_append]; show o2.length + 1 ≤ i + 1; omega⟩, HRN, HO7, HF7, LA7, HB7⟩
  ·have hlt' : decide ((i : Int) < (row.length : Int)) = false := decide_eq_false hlt
   have hend : o1 = r1 ∧ o2 = r2 := by
    have h1 := HRUN.out
    rw [List.drop_eq_nil_of_le (by omega), lp_run] at h1
    injection h1 with h1
    exact Prod.mk.inj h1
   obtain ⟨rfl, rfl⟩ := hend
   have hlt2 : decide (i < row.length) = false := decide_eq_false (by omega)
   clear hlt
   go_wp2
   go_ret3
   exact ⟨_, _, by first | rfl | (simp [go_sem]; done), Kd.R_mono HO.out (fun _ _ => trivial), Kd.R_mono HF.out (fun _ _ => trivial), HBr.out⟩
theorem lp_from_eq (vs : List (Nat × Nat)) : ∀ (xs : List (Nat × Nat)) (o : Nat), lp_from xs o vs = ArrW.setFrom xs o vs := by
 induction vs with
 | nil => intro xs o; rfl
 | cons v r ih => intro xs o; rw [lp_from, ArrW.setFrom, ih]
theorem lp_edge (n : Int) (e : Int × Int) (h : points_Edge.f n = some e) : LpEdge n e.1 e.2 := fun w => points_Edge.calls n e.1 e.2 w h
theorem lp_check (k : Nat) (h : List (Nat × Nat)) (c : Int) (hc : feedback_Check.f k h = some c) : LpCheck h c := fun A c0 w hr hl => feedback_Check.calls k A c0 h c w hr hl hc
theorem fb_no (k : Nat) (n : Int) (h : List (Nat × Nat)) (r : Int) (s : Lp) (hf : fb_new k n h = some (r, s)) (hr : r ≠ 0) : LpNewNo n h r := by
 intro A c w hC hc
 unfold fb_new at hf
 obtain ⟨e, he, hf⟩ := Option.bind_eq_some_iff.1 hf
 have hE := lp_edge n e he
 by_cases q : e.2 = 0
 ·rw [if_pos q] at hf
  rw [q] at hE
  obtain ⟨d, hd, hf⟩ := Option.bind_eq_some_iff.1 hf
  by_cases q2 : d = 0
  ·rw [if_pos q2] at hf
   split at hf
   ·obtain ⟨b, _, hf⟩ := Option.bind_eq_some_iff.1 hf
    injection hf with hf
    injection hf with h1 _
    exact absurd h1.symm hr
   ·cases hf
  ·rw [if_neg q2] at hf
   injection hf with hf
   injection hf with h1 _
   subst h1
   exact lp_new_check n e.1 d h A c w hE (lp_check k h d hd) hC hc q2
 ·rw [if_neg q] at hf
  injection hf with hf
  injection hf with h1 _
  subst h1
  exact lp_new_edge n e.1 e.2 h A c w hE q
theorem fb_yes (k : Nat) (n : Int) (h : List (Nat × Nat)) (s : Lp) (hf : fb_new k n h = some (0, s)) (h0 : feedback_Check.f k h = some 0 ∨ True) : LpNew n h s := by
 intro A c w hC hc
 unfold fb_new at hf
 obtain ⟨e, he, hf⟩ := Option.bind_eq_some_iff.1 hf
 have hE := lp_edge n e he
 by_cases q : e.2 = 0
 ·rw [if_pos q] at hf
  rw [q] at hE
  obtain ⟨d, hd, hf⟩ := Option.bind_eq_some_iff.1 hf
  by_cases q2 : d = 0
  ·rw [if_pos q2] at hf
   subst q2
   by_cases q3 : 1 ≤ h.length ∧ h.length ≤ 64
   ·rw [if_pos q3] at hf
    obtain ⟨b, hb, hf⟩ := Option.bind_eq_some_iff.1 hf
    injection hf with hf
    injection hf with _ h1
    subst h1
    rw [lp_from_eq]
    exact lp_new_ok n e.1 h b.1 b.2.1 b.2.2 A c w hE (lp_check k h 0 hd) (fun w => feedback_first.calls k _ b.1 b.2.1 b.2.2 w hb) hC hc q3
   ·rw [if_neg q3] at hf
    cases hf
  ·rw [if_neg q2] at hf
   injection hf with hf
   injection hf with h1 _
   exact absurd h1 q2
 ·rw [if_neg q] at hf
  injection hf with hf
  injection hf with h1 _
  exact absurd h1 (by decide)
theorem lp_rows (k : Nat) (l : List S101) (c : Int × Int) (h : grid_Check.f k l = some c) : LpRows l c.1 c.2 := fun A c0 w hr hl => grid_Check.calls k A c0 l c.1 c.2 w hr hl h
theorem feedback_run.calls (k : Nat) (a0 : Int) (A1 : Option Addr) (c1 : Nat) (l1 : List (Nat × Nat)) (A2 : Option Addr) (c2 : Nat) (l2 : List S101) (r1 : List S83) (r2 : List (Nat × Nat)) (r3 : Int) (w : World) (hr1 : Kd.C Kd.cplx w A1 l1.length l1) (hc1 : l1.length ≤ c1) (hr2 : Kd.C k101 w A2 l2.length l2) (hc2 : l2.length ≤ c2) (h : feedback_run.f k a0 l1 l2 = some (r1, r2, r3)) :
  Calls Try.prog 139 #[.int .i64 a0, .slice A1 l1.length c1, .slice A2 l2.length c2] w fun e w' => ∃ v0_ v1_ : Value, e = .returned (.tuple #[v0_, v1_, .int .i64 r3]) ∧ Kd.R k83 83 w' w.heap.size (fun _ => True) v0_ r1 ∧ Kd.R Kd.cplx 32 w' w.heap.size (fun _ => True) v1_ r2 ∧ Below w.heap.size w w' := by
 unfold feedback_run.f at h
 obtain ⟨⟨n1, s⟩, hn, h⟩ := Option.bind_eq_some_iff.1 h
 by_cases q : n1 = 0
 ·subst q
  rw [if_pos rfl] at h
  obtain ⟨⟨d1, d2⟩, hd, h⟩ := Option.bind_eq_some_iff.1 h
  have hN := fb_yes k a0 l1 s hn (.inr trivial)
  by_cases q2 : d2 = 0
  ·subst q2
   rw [if_pos rfl] at h
   by_cases q3 : l2.length ≤ 65536
   ·rw [if_pos q3] at h
    obtain ⟨⟨x1, x2⟩, hx, h⟩ := Option.bind_eq_some_iff.1 h
    injection h with h
    injection h with h1 h
    injection h with h2 h3
    subst h1 h2 h3
    exact lp_run_yes a0 l1 l2 s d1 k x1 x2 q3 hN (lp_rows k l2 (d1, 0) hd) hx A1 c1 A2 c2 w hr1 hc1 hr2 hc2
   ·rw [if_neg q3] at h
    cases h
  ·rw [if_neg q2] at h
   injection h with h
   injection h with h1 h
   injection h with h2 h3
   subst h1 h2 h3
   refine (lp_run_no2 a0 l1 l2 s d1 d2 q2 hN (lp_rows k l2 (d1, d2) hd) A1 c1 A2 c2 w hr1 hc1 hr2 hc2).mono ?_
   rintro e w' ⟨rfl, hb⟩
   exact ⟨_, _, rfl, Kd.R_nil .., Kd.R_nil .., hb⟩
 ·rw [if_neg q] at h
  injection h with h
  injection h with h1 h
  injection h with h2 h3
  subst h1 h2 h3
  refine (lp_run_no1 a0 l1 l2 n1 q (fb_no k a0 l1 n1 s hn q) A1 c1 A2 c2 w hr1 hc1 hr2 hc2).mono ?_
  rintro e w' ⟨rfl, hb⟩
  exact ⟨_, _, rfl, Kd.R_nil .., Kd.R_nil .., hb⟩
end Go.Proofs.Ythfcafllcgjepaa.Q
