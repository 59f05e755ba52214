import Derived.Test.YtncoakokdajibaaMendManyStepW
import Derived.Test.YtncoakokdajibaaMendManyK0
import Derived.Test.YtncoakokdajibaaMendManyF1
import Derived.Test.YtncoakokdajibaaMendManyQ0
import Derived.Test.YtncoakokdajibaaMendManyQ1
-- Printed by myprint.py (ours) over the kit's printer, out of the translation.
namespace Go.Proofs.Ytncoakokdajibaa.Q
open Go.RowKit Go.Proofs.YtncoakokdajibaaW.PrintWords Go.Proofs.YtncoakokdajibaaW.PrintLast Go.Proofs.YtncoakokdajibaaW.PrintMore
attribute [local go_sem] ArrW.ptrOf_slice unary_neg_float unary_neg_complex run_store_float run_store_complex max2_int min2_int max_two min_two max_three min_three max_four min_four   -- for this text's walks alone
set_option linter.unusedVariables false
set_option linter.unusedSimpArgs false
--WALK
def T2m0_ : Array Bool := (List.replicate 1 true ++ List.replicate 12 false).toArray
def T2m1_ : Array Bool := (List.replicate 2 true ++ List.replicate 11 false).toArray
def T2m2_ : Array Bool := (List.replicate 3 true ++ List.replicate 10 false).toArray
def T2m3_ : Array Bool := (List.replicate 4 true ++ List.replicate 9 false).toArray
def T2m4_ : Array Bool := (List.replicate 4 true ++ List.replicate 1 false ++ List.replicate 1 true ++ List.replicate 7 false).toArray
def T2m5_ : Array Bool := (List.replicate 4 true ++ List.replicate 1 false ++ List.replicate 2 true ++ List.replicate 6 false).toArray
def T2m6_ : Array Bool := (List.replicate 4 true ++ List.replicate 1 false ++ List.replicate 3 true ++ List.replicate 5 false).toArray
def T2m7_ : Array Bool := (List.replicate 8 true ++ List.replicate 5 false).toArray
def T2m8_ : Array Bool := (List.replicate 9 true ++ List.replicate 4 false).toArray
def T2m9_ : Array Bool := (List.replicate 11 true ++ List.replicate 2 false).toArray
def T2m10_ : Array Bool := (List.replicate 12 true ++ List.replicate 1 false).toArray
def T2m11_ : Array Bool := (List.replicate 1 true ++ List.replicate 15 false).toArray
def T2m12_ : Array Bool := (List.replicate 2 true ++ List.replicate 14 false).toArray
def T2m13_ : Array Bool := (List.replicate 2 true ++ List.replicate 1 false ++ List.replicate 1 true ++ List.replicate 12 false).toArray
def T2m14_ : Array Bool := (List.replicate 2 true ++ List.replicate 1 false ++ List.replicate 2 true ++ List.replicate 11 false).toArray
def T2m15_ : Array Bool := (List.replicate 2 true ++ List.replicate 1 false ++ List.replicate 2 true ++ List.replicate 1 false ++ List.replicate 1 true ++ List.replicate 9 false).toArray
def T2m16_ : Array Bool := (List.replicate 2 true ++ List.replicate 1 false ++ List.replicate 2 true ++ List.replicate 1 false ++ List.replicate 2 true ++ List.replicate 8 false).toArray
def T2m17_ : Array Bool := (List.replicate 2 true ++ List.replicate 1 false ++ List.replicate 2 true ++ List.replicate 1 false ++ List.replicate 3 true ++ List.replicate 7 false).toArray
def T2m18_ : Array Bool := (List.replicate 2 true ++ List.replicate 1 false ++ List.replicate 2 true ++ List.replicate 1 false ++ List.replicate 4 true ++ List.replicate 6 false).toArray
def T2m19_ : Array Bool := (List.replicate 2 true ++ List.replicate 1 false ++ List.replicate 2 true ++ List.replicate 1 false ++ List.replicate 5 true ++ List.replicate 5 false).toArray
def T2m20_ : Array Bool := (List.replicate 5 true ++ List.replicate 1 false ++ List.replicate 5 true ++ List.replicate 5 false).toArray
def T2m21_ : Array Bool := (List.replicate 11 true ++ List.replicate 5 false).toArray
def T2m22_ : Array Bool := (List.replicate 12 true ++ List.replicate 4 false).toArray
def T2m23_ : Array Bool := (List.replicate 14 true ++ List.replicate 2 false).toArray
def T2m24_ : Array Bool := (List.replicate 15 true ++ List.replicate 1 false).toArray
def mk8 (xs : List Int) : List Value := xs.map (Value.int .u8)
structure Pol (w : World) (g : Nat) (xs : List Int) : Prop where
 len : xs.length = 66
 blk : w.heap[g]? = some (.cells (mk8 xs).toArray 137 (0, 0))
theorem Pol.cell {w : World} {g : Nat} {xs : List Int} (h : Pol w g xs) (i : Nat) (hi : i < 66) : w.cell? ⟨g, i, none⟩ = some (.int .u8 (rd xs (i : Int))) := by
 rw [blk_cell h.blk i]
 have hl := h.len
 unfold mk8 rd
 rw [List.getElem?_toArray, List.getElem?_map, Int.toNat_natCast, List.getD_eq_getElem?_getD, List.getElem?_eq_getElem (by omega)]
 rfl
theorem Pol.frozen {w : World} {g : Nat} {xs : List Int} (h : Pol w g xs) (i : Nat) : w.frozen? ⟨g, i, none⟩ = false := blk_frozen h.blk i
theorem Pol.put {w : World} {g : Nat} {xs : List Int} (h : Pol w g xs) (i : Nat) (v : Int) : Pol (w.setCell ⟨g, i, none⟩ (.int .u8 v)) g (xs.set i v) :=
 ⟨by rw [List.length_set]; exact h.len, blk_put h.blk i _ (by rw [List.setIfInBounds_toArray]; unfold mk8; rw [List.map_set])⟩
theorem Pol.below {w w1 : World} {g : Nat} {xs : List Int} (h : Pol w g xs) (hb : Below w.heap.size w w1) : Pol w1 g xs := ⟨h.len, blk_below h.blk hb⟩
theorem Pol.far {w : World} {g g' j : Nat} {xs : List Int} (h : Pol w g xs) (hne : g ≠ g') (u : Value) : Pol (w.setCell ⟨g', j, none⟩ u) g xs := ⟨h.len, blk_far h.blk hne u⟩
theorem Pol.drew {w : World} {g : Nat} {xs : List Int} (h : Pol w g xs) : Pol w.drew g xs := ⟨h.len, h.blk⟩
theorem Pol.drewN {w : World} {g : Nat} {xs : List Int} (h : Pol w g xs) (n : Nat) : Pol (w.drewN n) g xs := ⟨h.len, h.blk⟩
theorem Pol.lt {w : World} {g : Nat} {xs : List Int} (h : Pol w g xs) : g < w.heap.size := blk_lt h.blk
theorem Pol.drawn {w w1 : World} {g : Nat} {xs : List Int} (h : Pol w g xs) (hd : Drawn0 w w1) : Pol w1 g xs := by
 obtain ⟨n, rfl⟩ := hd.out
 exact h.drewN n
set_option maxHeartbeats 8000000 in
set_option maxRecDepth 100000 in
theorem pol_at (k : Nat) (p : List Int) (x : Int) (d : Nat) (g : Nat) (r : Int) (w : World) (h : Pol w g p) (hd : d < 66) (hr : mk_at k p x (d + 1) 0 = some r) :
  Calls Try.prog 108 #[.pointer (some ⟨g, 0, none⟩), .int .u8 x, .int .i64 (d : Int)] w fun e w' => e = .returned (.int .u8 r) ∧ Drawn0 w w' := by
 have HP := Aside0.mk h
 have HD := Aside0.mk hd
 have HR := Aside0.mk hr
 clear h hd hr
 go_enter Try.func108, Try.ntmps108
 go_wp2
 go_loopg [7, 8] (d + 2) (fun kq v7 v8 w' => ∃ (c : Nat) (s : Int), v7 = .int .u8 s ∧ v8 = .int .i64 ((c : Int) - 1) ∧ Aside0 (kq = c + 1 ∧ c ≤ d + 1) ∧ Aside0 (mk_at k p x c s = some r) ∧ Drawn0 w w')
 case atStart => exact ⟨d + 1, 0, rfl, congrArg (fun y => Value.int .i64 y) (by omega), ⟨rfl, Nat.le_refl _⟩, HR, Drawn0.refl _⟩
 case round =>
  obtain ⟨c, s, rfl, rfl, HC, HA, HDr⟩ := hrel
  cases c with
  | zero =>
   have hA := HA.out
   rw [mk_at] at hA
   obtain rfl := Option.some.inj hA
   have hlt : decide (((0 : Nat) : Int) - 1 ≥ 0) = false := by decide
   clear hA
   go_wp2
   go_ret
   exact ⟨by first | rfl | (simp; done), by repeat (first | exact HDr | apply Drawn0.step)⟩
  | succ c =>
   have hA := HA.out
   rw [mk_at] at hA
   obtain ⟨t, A1, hA⟩ := Option.bind_eq_some_iff.1 hA
   have HA1 := Aside0.mk A1
   have HA2 := Aside0.mk hA
   have hc0 : (((c + 1 : Nat) : Int) - 1) = (c : Int) := by omega
   rw [hc0]
   have hge : decide ((c : Int) ≥ 0) = true := decide_eq_true (by omega)
   have hge2 : decide (0 ≤ (c : Int)) = true := decide_eq_true (by omega)
   have hj0 : (0 ≤ (c : Int)) = True := eq_true (by omega)
   have hj1 : ((c : Int) < 66) = True := eq_true (by have := HC.out; have := HD.out; omega)
   have hcell : wr.cell? ⟨g, c, none⟩ = some (.int .u8 (rd p (c : Int))) := (HP.out.drawn HDr).cell c (by have := HC.out; have := HD.out; omega)
   clear hc0 A1 hA HA
   go_wp2
   go_quiet ((go_at_call 64; exact Calls.quiet_of ((field_Times.calls k s x t _ HA1.out).mono fun e w' ⟨he, m⟩ => ⟨he, m.out⟩)))
   go_wp2
   clear hge hge2 hj0 hj1 hcell
   go_roundg (c + 1)
   case measure => have := HC.out; omega
   case rel => exact ⟨c, _, rfl, congrArg (fun y => Value.int .i64 y) (by unfold wrap64; have := HC.out; have := HD.out; omega), ⟨rfl, by have := HC.out; omega⟩, HA2, by repeat (first | exact HDr | apply Drawn0.step)⟩
theorem mk8_all (xs : List Int) : ∀ v ∈ mk8 xs, v.oneCell' = true := fun v hv => by
 obtain ⟨x, _, rfl⟩ := List.mem_map.1 hv
 rfl
theorem isArr137 : (Try.prog.info? 137).map (fun i => (i.zero.map Value.cells, i.size)) = some (some (Array.replicate 66 (.int .u8 0)), 66) := by kernel_rfl
theorem agg137 (w : World) : (isAgg 137).run Try.prog w = .ok true w := by
 simp [isAgg, go_sem]
theorem size137 (w : World) : (sizeOf 137).run Try.prog w = .ok 66 w := by
 obtain ⟨i, hi, hz⟩ := Option.map_eq_some_iff.1 isArr137
 simp only [Prod.mk.injEq] at hz
 simp [sizeOf, typeInfo, hi, hz.2, go_sem]
theorem run_load137 (w : World) (g : Nat) (xs : List Int) (h : Pol w g xs) : (loadVar 137 ⟨g, 0, none⟩).run Try.prog w = .ok (.agg (mk8 xs).toArray) w := by
 have hl : (mk8 xs).length = 66 := by unfold mk8; rw [List.length_map]; exact h.len
 have h1 := run_loadCells_list (P := Try.prog) (w := w) ⟨g, 0, none⟩ (mk8 xs) (fun j v hv => by
  have hadd : (⟨g, 0, none⟩ : Addr).add j = ⟨g, j, none⟩ := by unfold Addr.add; split <;> simp_all
  rw [hadd, blk_cell h.blk j, List.getElem?_toArray]
  exact hv)
 rw [hl] at h1
 unfold loadVar
 simp only [Sem.run_bind, agg137, Result.andThen_ok, if_true, size137, h1, Sem.run_pure]
theorem run_store137 (w : World) (g : Nat) (xs ys : List Int) (h : Pol w g xs) (hy : ys.length = 66) : (storeVar 137 ⟨g, 0, none⟩ (.agg (mk8 ys).toArray)).run Try.prog w = .ok () (w.setRow g (mk8 ys).toArray) := by
 have hl : (mk8 ys).length = 66 := by unfold mk8; rw [List.length_map]; exact hy
 have hlx : (mk8 xs).length = 66 := by unfold mk8; rw [List.length_map]; exact h.len
 have h1 := run_storeCells_from (P := Try.prog) g 137 (mk8 ys) 0 (mk8 xs).toArray w h.blk (by simp [hl, hlx]) (mk8_all ys)
 unfold storeVar
 simp only [Value.cells, Sem.run_bind, size137, Result.andThen_ok, List.size_toArray, hl]
 simpa using h1
theorem setRow_other (w : World) (g k : Nat) (cs : Array Value) (h : k ≠ g) : (w.setRow g cs).heap[k]? = w.heap[k]? := by
 unfold World.setRow
 simp [Array.getElem?_modify, Ne.symm h]
theorem setRow_size (w : World) (g : Nat) (cs : Array Value) : (w.setRow g cs).heap.size = w.heap.size := by
 unfold World.setRow
 simp
theorem Pol.row {w : World} {g : Nat} {xs ys : List Int} (h : Pol w g xs) (hy : ys.length = 66) : Pol (w.setRow g (mk8 ys).toArray) g ys := ⟨hy, setRow_heap w g _ _ 137 _ h.blk⟩
theorem Pol.other {w : World} {g g' : Nat} {xs : List Int} (h : Pol w g xs) (hne : g ≠ g') (cs : Array Value) : Pol (w.setRow g' cs) g xs := ⟨h.len, (setRow_other w g' g cs hne).trans h.blk⟩
theorem below_setRow {w W : World} {g : Nat} {cs : Array Value} (h : Below w.heap.size w W) (hg : w.heap.size ≤ g) : Below w.heap.size w (W.setRow g cs) := ⟨h.os, h.tape, h.output, by rw [setRow_size]; exact h.size, fun k hk => (setRow_other W g k cs (by omega)).trans (h.block k hk)⟩
theorem Pol.new (w : World) : Pol (w.alloc (.cells (Array.replicate 66 (.int .u8 0)) 137 (0, 0))) w.heap.size (List.replicate 66 0) := ⟨List.length_replicate, by rw [blk_new]; unfold mk8; rw [List.map_replicate]; rfl⟩
theorem run_alloc137 (w : World) : (Instr.alloc 137 true (.tuple #[])).run Try.prog w = .ok (.pointer (some ⟨w.heap.size, 0, none⟩)) (w.alloc (.cells (Array.replicate 66 (.int .u8 0)) 137)) := by
 obtain ⟨i, hi, hz⟩ := Option.map_eq_some_iff.1 isArr137
 simp only [Prod.mk.injEq] at hz
 obtain ⟨z, hz1, hz2⟩ := Option.map_eq_some_iff.1 hz.1
 rw [ArrW.run_alloc_of hi hz1, hz2]
section
variable {ops : Array Oper} {rest : List Oper} {o : Oper} {a : Act} {Q : Exit → Act → World → Prop} {W : World}
theorem alloc137_event (hgd : o.guard = none) {N : Tmp} (hd : o.dst = some N) (ho : o.op = .alloc 137)
  (h : ∀ g, g = W.heap.size → ∀ w1, Pol w1 g (List.replicate 66 0) → Below W.heap.size W w1 → wpList Try.prog ops Q rest (a.put o.dst (.pointer (some ⟨g, 0, none⟩))) w1) : wpList Try.prog ops Q (o :: rest) a W := by
 refine Kd.event_run hgd ?_ (h _ rfl _ (Pol.new W) (below_alloc (Below.refl _ _) _))
 unfold execOp
 rw [ho]
 show Sem.run Try.prog (Instr.alloc 137 true (.tuple #[]) >>= fun x => pure (Next.value x)) W = _
 rw [Sem.run_bind, run_alloc137]
 rfl
theorem load137_event (hgd : o.guard = none) {N : Tmp} (hd : o.dst = some N) (x : Operand) (ho : o.op = .load 137 x) {g : Nat} {xs : List Int} (hx : a.eval x = .pointer (some ⟨g, 0, none⟩)) (hp : Pol W g xs)
  (h : wpList Try.prog ops Q rest (a.put o.dst (.agg (mk8 xs).toArray)) W) : wpList Try.prog ops Q (o :: rest) a W := by
 refine Kd.event_run hgd ?_ h
 unfold execOp
 rw [ho]
 show Sem.run Try.prog (Instr.loadAt 137 (a.eval x) >>= fun x => pure (Next.value x)) W = _
 rw [hx, Sem.run_bind]
 show (Sem.run Try.prog (loadVar 137 ⟨g, 0, none⟩) W).andThen _ = _
 rw [run_load137 W g xs hp]
 rfl
theorem store137_event (hgd : o.guard = none) {p v : Operand} (ho : o.op = .store 137 p v) (hN : o.dst = none) {g : Nat} {xs ys : List Int} (hx : a.eval p = .pointer (some ⟨g, 0, none⟩)) (hv : a.eval v = .agg (mk8 ys).toArray) (hp : Pol W g xs) (hy : ys.length = 66)
  (h : wpList Try.prog ops Q rest a (W.setRow g (mk8 ys).toArray)) : wpList Try.prog ops Q (o :: rest) a W := by
 refine wpList_plain hgd fun K hK => ?_
 unfold Oper.wp execOp
 rw [ho]
 have : (Sem.run Try.prog (Instr.storeAt 137 (a.eval p) (a.eval v) >>= fun _ => pure Next.skip) W) = .ok .skip (W.setRow g (mk8 ys).toArray) := by
  rw [hx, hv, Sem.run_bind]
  show (Sem.run Try.prog (storeVar 137 ⟨g, 0, none⟩ (.agg (mk8 ys).toArray)) W).andThen _ = _
  rw [run_store137 W g xs ys hp hy]
  rfl
 show match Sem.run Try.prog (Instr.storeAt 137 (a.eval p) (a.eval v) >>= fun _ => pure Next.skip) W with | _ => _
 rw [this]
 show K (a.put o.dst undef) _
 rw [hN]
 exact hK _ _ h
end
theorem Pol.setCells {g : Nat} : ∀ (vs xs : List Int) (j : Nat) (W : World), Pol W g xs → Pol (W.setCells g j (mk8 vs)) g (ArrW.setFrom xs j vs)
 | [], _, _, _, h => h
 | v :: r, xs, j, W, h => Pol.setCells r (xs.set j v) (j + 1) _ (h.put j v)
theorem setFrom_pad : ∀ (lost xs : List Int) (j : Nat), j + lost.length ≤ xs.length → ArrW.setFrom xs j lost = xs.take j ++ lost ++ xs.drop (j + lost.length)
 | [], xs, j, _ => by rw [ArrW.setFrom, List.length_nil, Nat.add_zero, List.append_nil, List.take_append_drop]
 | v :: r, xs, j, h => by
  rw [List.length_cons] at h
  rw [ArrW.setFrom, setFrom_pad r (xs.set j v) (j + 1) (by rw [List.length_set]; omega), List.length_cons, List.drop_set_of_lt (by omega), show j + 1 + r.length = j + (r.length + 1) by omega]
  congr 1
  rw [List.take_succ_eq_append_getElem (by rw [List.length_set]; omega), List.getElem_set_self, List.take_set_of_le (Nat.le_refl j), List.append_assoc]
  rfl
theorem pad_eq (lost : List Int) (h : lost.length ≤ 66) : ArrW.setFrom (List.replicate 66 0) 0 lost = mk_pad lost := by
 rw [setFrom_pad lost _ 0 (by rw [List.length_replicate]; omega), List.take_zero, List.nil_append, Nat.zero_add, List.drop_replicate]
 rfl
structure KW (w W : World) (g4 g6 g7 : Nat) (now old : List Int) : Prop where
 p4 : ∃ z, Pol W g4 z
 p6 : Pol W g6 now
 p7 : Pol W g7 old
 lo : w.heap.size ≤ g4
 o1 : g4 < g6
 o2 : g6 < g7
 b : Below w.heap.size w W
theorem KW.drew {w W : World} {g4 g6 g7 : Nat} {now old : List Int} (h : KW w W g4 g6 g7 now old) : KW w W.drew g4 g6 g7 now old := ⟨h.p4.imp fun _ p => p.drew, h.p6.drew, h.p7.drew, h.lo, h.o1, h.o2, below_drew h.b⟩
theorem KW.drawn {w W W1 : World} {g4 g6 g7 : Nat} {now old : List Int} (h : KW w W g4 g6 g7 now old) (hd : Drawn0 W W1) : KW w W1 g4 g6 g7 now old := by
 obtain ⟨n, rfl⟩ := hd.out
 exact ⟨h.p4.imp fun _ p => p.drewN n, h.p6.drewN n, h.p7.drewN n, h.lo, h.o1, h.o2, pw_below_drewN h.b n⟩
theorem KW.then_ {w W W1 : World} {g4 g6 g7 : Nat} {now old : List Int} (h : KW w W g4 g6 g7 now old) (hb : Below W.heap.size W W1) : KW w W1 g4 g6 g7 now old :=
 ⟨h.p4.imp fun _ p => p.below hb, h.p6.below hb, h.p7.below hb, h.lo, h.o1, h.o2, below_step h.b hb⟩
theorem KW.far {w W : World} {g4 g6 g7 : Nat} {now old : List Int} (h : KW w W g4 g6 g7 now old) {g : Nat} (hg : g7 < g) (j : Nat) (v : Value) : KW w (W.setCell ⟨g, j, none⟩ v) g4 g6 g7 now old :=
 ⟨h.p4.imp fun _ p => p.far (by have := h.o1; have := h.o2; omega) v, h.p6.far (by have := h.o2; omega) v, h.p7.far (by omega) v, h.lo, h.o1, h.o2, below_set h.b (by have := h.lo; have := h.o1; have := h.o2; omega)⟩
theorem KW.farRow {w W : World} {g4 g6 g7 : Nat} {now old : List Int} (h : KW w W g4 g6 g7 now old) {g : Nat} (hg : g7 < g) (cs : Array Value) : KW w (W.setRow g cs) g4 g6 g7 now old :=
 ⟨h.p4.imp fun _ p => p.other (by have := h.o1; have := h.o2; omega) cs, h.p6.other (by have := h.o2; omega) cs, h.p7.other (by omega) cs, h.lo, h.o1, h.o2, below_setRow h.b (by have := h.lo; have := h.o1; have := h.o2; omega)⟩
theorem KW.row7 {w W : World} {g4 g6 g7 : Nat} {now old : List Int} (h : KW w W g4 g6 g7 now old) (ys : List Int) (hy : ys.length = 66) : KW w (W.setRow g7 (mk8 ys).toArray) g4 g6 g7 now ys :=
 ⟨h.p4.imp fun _ p => p.other (by have := h.o1; have := h.o2; omega) _, h.p6.other (by have := h.o2; omega) _, h.p7.row hy, h.lo, h.o1, h.o2, below_setRow h.b (by have := h.lo; have := h.o1; have := h.o2; omega)⟩
theorem KW.row6 {w W : World} {g4 g6 g7 : Nat} {now old : List Int} (h : KW w W g4 g6 g7 now old) (ys : List Int) (hy : ys.length = 66) : KW w (W.setRow g6 (mk8 ys).toArray) g4 g6 g7 ys old :=
 ⟨h.p4.imp fun _ p => p.other (by have := h.o1; omega) _, h.p6.row hy, h.p7.other (by have := h.o2; omega) _, h.lo, h.o1, h.o2, below_setRow h.b (by have := h.lo; have := h.o1; omega)⟩
theorem mk_pad_len (l : List Int) (h : l.length ≤ 66) : (mk_pad l).length = 66 := by
 unfold mk_pad
 rw [List.length_append, List.length_replicate]
 omega
theorem copy_lost (W : World) (g n c : Nat) (ad : Addr) (lost xs : List Int) (hp : Pol W g xs) (hr : Kd.C (Kd.int .u8) W (some ad) lost.length lost) (hl : lost.length ≤ 66) (ty : TypeId) :
  (Builtin.copy_ #[29, 29] ty #[.slice (some ⟨g, 0, none⟩) 66 66, .slice (some ad) lost.length c]).run Try.prog W = .ok (goInt lost.length) (W.setCells g 0 (mk8 lost)) := by
 have hlen : (mk8 lost).length = lost.length := by unfold mk8; rw [List.length_map]
 have h := run_copy_cells (P := Try.prog) W 29 29 ty 5 g 0 66 66 ad lost.length c (mk8 lost) Try.underlying29 (by kernel_rfl) (by rw [hlen]; exact (Nat.min_eq_left hl).symm)
  (fun j v hv => by
   unfold mk8 at hv
   rw [List.getElem?_map, Option.map_eq_some_iff] at hv
   obtain ⟨x, hx, rfl⟩ := hv
   obtain ⟨hj, hx⟩ := List.getElem?_eq_some_iff.1 hx
   obtain ⟨ad', e, hc⟩ := Kd.at_int hr (j : Int) (by omega) (by omega)
   cases e
   rw [Int.toNat_natCast] at hc
   rw [hc]
   unfold rd
   rw [Int.toNat_natCast, List.getD_eq_getElem?_getD, List.getElem?_eq_getElem hj, hx]
   rfl)
  (fun j hj => by rw [hlen] at hj; rw [Nat.zero_add, hp.cell j (by omega)]; rfl) (fun j _ => hp.frozen _) (mk8_all lost)
 rw [hlen] at h
 exact h
theorem Pol.farCells {g g' : Nat} {xs : List Int} (hne : g ≠ g') : ∀ (vs : List Value) (j : Nat) (W : World), Pol W g xs → Pol (W.setCells g' j vs) g xs
 | [], _, _, h => h
 | v :: r, j, W, h => Pol.farCells hne r (j + 1) _ (h.far hne v)
theorem KW.copied {w W : World} {g4 g6 g7 : Nat} {now old : List Int} (h : KW w W g4 g6 g7 now old) (vs : List Int) : KW w (W.setCells g6 0 (mk8 vs)) g4 g6 g7 (ArrW.setFrom now 0 vs) old :=
 ⟨h.p4.imp fun _ p => p.farCells (by have := h.o1; omega) _ _ _, Pol.setCells _ _ _ _ h.p6, h.p7.farCells (by have := h.o2; omega) _ _ _, h.lo, h.o1, h.o2, ArrW.below_setCells (by have := h.lo; have := h.o1; omega) _ _ _ h.b⟩
theorem mk_w {x y : Int} (h : x = y) (h0 : 0 ≤ y) (h1 : y ≤ 1000000) : wrap64 x = y := by subst h; unfold wrap64; omega
set_option maxHeartbeats 8000000 in
set_option maxRecDepth 100000 in
theorem pol_key (k : Nat) (s lost : List Int) (qf : Kst) (A1 : Option Addr) (c1 : Nat) (A2 : Option Addr) (c2 : Nat) (w : World) (hr1 : Kd.C (Kd.int .u8) w A1 s.length s) (hc1 : s.length ≤ c1) (hr2 : Kd.C (Kd.int .u8) w A2 lost.length lost) (hc2 : lost.length ≤ c2)
  (hl1 : 1 ≤ lost.length) (hl2 : lost.length ≤ 66) (hs : s.length ≤ 1000) (h : mk_loop k s (lost.length - 1) (s.length - (lost.length - 1)) (lost.length - 1) ⟨mk_pad lost, mk_pad lost, lost.length - 1, 1, 1⟩ = some qf) :
  Calls Try.prog 105 #[.slice A1 s.length c1, .slice A2 lost.length c2] w fun e w' => e = .returned (.tuple #[.agg (mk8 qf.now).toArray, .int .i64 (qf.l : Int)]) ∧ Below w.heap.size w w' := by
 obtain ⟨ad2, e2, _⟩ := Kd.at_int hr2 0 (Int.le_refl 0) (by omega)
 subst e2
 have HR1 := Aside0.mk hr1
 have HC1 := Aside0.mk hc1
 have HR2 := Aside0.mk hr2
 have HS := Aside0.mk hs
 have HL := Aside0.mk (show 1 ≤ lost.length ∧ lost.length ≤ 66 from ⟨hl1, hl2⟩)
 have HRUN := True.intro
 have hu137 := Try.underlying137
 obtain ⟨f, hf⟩ : ∃ f, f = lost.length - 1 := ⟨_, rfl⟩
 have HF := Aside0.mk hf
 have hwf : wrap64 ((lost.length : Int) - 1) = (f : Int) := by unfold wrap64; omega
 rw [← hf] at h
 replace HRUN := Aside0.mk h
 clear hr1 hc1 hr2 hc2 hl1 hl2 hs h hf
 go_enter Try.func105, Try.ntmps105
 go_wp2_with (first
  | ((with_reducible refine gate_dst (N := 4) rfl ?_); refine alloc137_event rfl rfl rfl ?_; intro g4 hg4 w1 hp hb; have G4 := Aside0.mk hg4; have P4 := Aside0.mk hp; have HB := Aside0.mk hb; clear hg4 hp hb)
  | ((with_reducible refine gate_dst (N := 6) rfl ?_); refine alloc137_event rfl rfl rfl ?_; intro g6 hg6 w2 hp hb; have G6 := Aside0.mk hg6; have P6 := Aside0.mk hp; have P4b := Aside0.mk (P4.out.below hb); have HB2 := Aside0.mk (below_step HB.out hb); clear hg6 hp hb)
  | ((with_reducible refine gate_dst (N := 7) rfl ?_); refine alloc137_event rfl rfl rfl ?_; intro g7 hg7 w3 hp hb; have HKW := Aside0.mk (show KW w w3 g4 g6 g7 (List.replicate 66 0) (List.replicate 66 0) from ⟨⟨_, P4b.out.below hb⟩, P6.out.below hb, hp, by have := G4.out; omega, by have := G4.out; have := G6.out; have := P4.out.lt; omega, by have := G6.out; have := P6.out.lt; omega, below_step HB2.out hb⟩); clear hg7 hp hb P4 P4b P6 HB HB2 G4 G6; have hcp := copy_lost w3 g6 0 c2 ad2 lost _ HKW.out.p6 (Kd.C_below HR2.out HKW.out.b) HL.out.2 3)
  | ((with_reducible refine gate_dst (N := 25) rfl ?_); have HKW2 := Aside0.mk (show KW w (w3.setCells g6 0 (mk8 lost)) g4 g6 g7 (mk_pad lost) (List.replicate 66 0) from by rw [← pad_eq lost HL.out.2]; exact HKW.out.copied lost); refine load137_event rfl rfl (.tmp 6) rfl (g := g6) (xs := mk_pad lost) rfl HKW2.out.p6 ?_)
  | ((with_reducible refine gate_store (t := 137) (p := 7) rfl ?_); refine store137_event (p := .tmp 7) (v := .tmp 25) rfl rfl rfl (g := g7) (ys := mk_pad lost) rfl rfl HKW2.out.p7 (mk_pad_len lost HL.out.2) ?_; have HKW3 := Aside0.mk (HKW2.out.row7 (mk_pad lost) (mk_pad_len lost HL.out.2)); clear HKW HKW2 hcp; generalize ((w3.setCells g6 0 (mk8 lost)).setRow g7 (mk8 (mk_pad lost)).toArray) = w4 at *))
 clear hwf
 go_loopg [9, 10, 11, 12] (s.length - f + 1) (fun kq v9 v10 v11 v12 w' => ∃ (n : Nat) (q : Kst), v9 = .int .i64 (q.l : Int) ∧ v10 = .int .u8 q.last ∧ v11 = .int .i64 (q.gap : Int) ∧ v12 = .int .i64 (n : Int) ∧ Aside0 (kq = s.length - n + 1 ∧ f ≤ n ∧ n ≤ max s.length f) ∧ Aside0 (mk_loop k s f (s.length - n) n q = some qf) ∧ Aside0 (KW w w' g4 g6 g7 q.now q.old))
 case atStart => exact ⟨f, ⟨mk_pad lost, mk_pad lost, f, 1, 1⟩, rfl, rfl, rfl, rfl, ⟨rfl, Nat.le_refl _, Nat.le_max_right _ _⟩, HRUN, HKW3⟩
 case round =>
  clear HRUN HKW3
  obtain ⟨n, q, rfl, rfl, rfl, rfl, HN, HA, HKr⟩ := hrel
  have hfb : f < 66 := by have := HF.out; have := HL.out; omega
  by_cases hn : n < s.length
  ·have hlt : decide (n < s.length) = true := decide_eq_true hn
   have HNn := Aside0.mk hn
   have hA := HA.out
   rw [show s.length - n = (s.length - (n + 1)) + 1 by omega, mk_loop] at hA
   obtain ⟨q1, hq1, hA⟩ := Option.bind_eq_some_iff.1 hA
   have HA1 := Aside0.mk hA
   unfold mk_round at hq1
   by_cases hcap : q.l < 66 ∧ q.gap ≤ 1000
   ·rw [if_pos hcap] at hq1
    obtain ⟨dd, hd, hq1⟩ := Option.bind_eq_some_iff.1 hq1
    have HC := Aside0.mk hcap
    have HQ1 := Aside0.mk hq1
    have HD := Aside0.mk hd
    have hs1000 := HS.out
    clear hn hA HA hcap hq1 hd
    go_wp2
    go_loopg [13, 14] (min q.l n + 2) (fun kq v13 v14 w' => ∃ (j : Nat) (d : Int), v13 = .int .u8 d ∧ v14 = .int .i64 (j : Int) ∧ Aside0 (j + kq = min q.l n + 2 ∧ j ≤ min q.l n + 1) ∧ Aside0 (mk_disc k q.now s n (min q.l n + 1 - j) j d = some dd) ∧ Aside0 (Drawn0 wr w'))
    case atStart => exact ⟨0, 0, rfl, rfl, ⟨by omega, by omega⟩, HD, ⟨Drawn0.refl _⟩⟩
    case round =>
     clear HD
     obtain ⟨j, d, rfl, rfl, HJ, HA, HDr⟩ := hrel
     have hqb := HC.out
     have HK2 := Aside0.mk (HKr.out.drawn HDr.out)
     by_cases hj : j ≤ min q.l n
     ·have h1 : decide (j ≤ q.l) = true := decide_eq_true (by omega)
      have h2 : decide (j ≤ n) = true := decide_eq_true (by omega)
      have hA := HA.out
      rw [show min q.l n + 1 - j = (min q.l n + 1 - (j + 1)) + 1 by omega, mk_disc] at hA
      obtain ⟨t, A1', hA⟩ := Option.bind_eq_some_iff.1 hA
      have HT := Aside0.mk A1'
      have HA2 := Aside0.mk hA
      have hnn := HNn.out
      have hjl : j < 66 := by omega
      have hc6 : wr.cell? ⟨g6, j, none⟩ = some (.int .u8 (rd q.now (j : Int))) := HK2.out.p6.cell j hjl
      obtain ⟨ad1, e1, hcs⟩ := Kd.at_int (Kd.C_below HR1.out HK2.out.b) ((n - j : Nat) : Int) (by omega) (by omega)
      subst e1
      rw [Int.toNat_natCast] at hcs
      have hw1 : wrap64 ((n : Int) - (j : Int)) = ((n - j : Nat) : Int) := by unfold wrap64; omega
      have hv1 : IntKind.i64.wrap ((n : Int) - (j : Int)) = ((n - j : Nat) : Int) := by rw [i64_w]; exact hw1
      have hi1 : (n - j < s.length) = True := eq_true (by omega)
      have hi2 : (j < 66) = True := eq_true hjl
      have hi3 : ((j : Int) < 66) = True := eq_true (by omega)
      have HJj := Aside0.mk hj
      clear hA A1' HA hj hnn hjl
      go_wp2
      go_quiet ((go_at_call 64; exact Calls.quiet_of ((field_Times.calls k (rd q.now (j : Int)) (rd s ((n - j : Nat) : Int)) t _ HT.out).mono fun e w' ⟨he, m⟩ => ⟨he, m.out⟩)))
      go_wp2
      clear h1 h2 hc6 hcs hw1 hv1 hi1 hi2 hi3
      go_roundg (min q.l n + 2 - (j + 1))
      case measure => have := HJ.out; have := HJj.out; omega
      case rel => exact ⟨j + 1, _, rfl, congrArg (fun y => Value.int .i64 y) (by have := HJj.out; have := HC.out; unfold wrap64; omega), ⟨by have := HJ.out; have := HJj.out; omega, by have := HJj.out; omega⟩, HA2, ⟨by repeat (first | exact HDr.out | apply Drawn0.step)⟩⟩
     ·have hA := HA.out
      rw [show min q.l n + 1 - j = 0 by omega, mk_disc] at hA
      obtain rfl := Option.some.inj hA
      have hx : decide (j ≤ q.l) = false ∨ (decide (j ≤ q.l) = true ∧ decide (j ≤ n) = false) := by
       by_cases c : j ≤ q.l
       ·exact Or.inr ⟨decide_eq_true c, decide_eq_false (by omega)⟩
       ·exact Or.inl (decide_eq_false c)
      have hw9 : wrap64 ((q.gap : Int) + 1) = ((q.gap + 1 : Nat) : Int) := by unfold wrap64; omega
      have hw10 : wrap64 ((n : Int) + 1) = ((n + 1 : Nat) : Int) := by have := HNn.out; unfold wrap64; omega
      clear hA HA hj
      by_cases h0 : d = 0
      ·have hz : (d == 0) = true := by simp [h0]
       have hq1 := HQ1.out
       rw [if_pos h0] at hq1
       obtain rfl := Option.some.inj hq1
       clear hq1 h0 HQ1
       rcases hx with h1 | ⟨h1, h2⟩
       all_goals (
        go_wp2
        have HW10 := Aside0.mk hw10
        clear hw9 hw10
        go_roundg (s.length - (n + 1) + 1)
        case measure => have := HN.out; have := HNn.out; omega
        case rel => exact ⟨n + 1, { q with gap := q.gap + 1 }, rfl, rfl, rfl, (by first | exact congrArg (fun y => Value.int .i64 y) HW10.out | rfl | (simp; done)), ⟨rfl, by have := HN.out; omega, by have := HNn.out; omega⟩, HA1, HK2⟩)
      ·have hz : (d == 0) = false := by simp [h0]
       have hq1 := HQ1.out
       rw [if_neg h0] at hq1
       obtain ⟨⟨b1, b2⟩, hov, hq1⟩ := Option.bind_eq_some_iff.1 hq1
       obtain ⟨xf, hnx, hq1⟩ := Option.bind_eq_some_iff.1 hq1
       have HOV := Aside0.mk hov
       have HNX := Aside0.mk hnx
       have HQ2 := Aside0.mk hq1
       clear hq1 h0 HQ1 hov hnx
       rcases hx with h1 | ⟨h1, h2⟩
       all_goals (
        go_wp2_with (first
         | (go_at_call 107; (with_reducible refine (field_Over.calls k d q.last b1 b2 _ HOV.out).mono ?_); rintro e w5 ⟨rfl, hdr⟩; have HK3 := Aside0.mk (HK2.out.drawn hdr); clear hdr)
         | ((with_reducible refine gate_dst (N := 66) rfl ?_); refine load137_event rfl rfl (.tmp 6) rfl (g := g6) (xs := q.now) rfl HK3.out.p6 ?_)
         | ((with_reducible refine gate_dst (N := 17) rfl ?_); refine alloc137_event rfl rfl rfl ?_; intro g17 hg17 w6 hp hb; have G17 := Aside0.mk (show g7 < g17 from by have := HK3.out.p7.lt; omega); have P17 := Aside0.mk hp; have HK4 := Aside0.mk (HK3.out.then_ hb); clear hg17 hp hb)
         | ((with_reducible refine gate_store (t := 137) (p := 17) rfl ?_); refine store137_event (p := .tmp 17) (v := .tmp 66) rfl rfl rfl (g := g17) (ys := q.now) rfl rfl P17.out HK4.out.p6.len ?_; have P17b := Aside0.mk (P17.out.row HK4.out.p6.len); have HK5 := Aside0.mk (HK4.out.farRow G17.out (mk8 q.now).toArray); clear P17 HK4; generalize w6.setRow g17 (mk8 q.now).toArray = w7 at *))
        go_loopg [18] (68 - q.gap) (fun kq v18 w' => ∃ (j : Nat) (x : List Int), v18 = .int .i64 (j : Int) ∧ Aside0 (j + kq = 68 - q.gap) ∧ Aside0 (mk_next k b1 q.old q.gap (66 - q.gap - j) j x = some xf) ∧ Aside0 (Pol w' g17 x) ∧ Aside0 (KW w w' g4 g6 g7 q.now q.old))
        case atStart => exact ⟨0, q.now, rfl, ⟨by omega⟩, HNX, P17b, HK5⟩
        case round =>
         clear HNX P17b HK5
         obtain ⟨j, x, rfl, HJ2, HA3, PX, HK6⟩ := hrel
         obtain ⟨m, hm⟩ : ∃ m, m = j + q.gap := ⟨_, rfl⟩
         have HMJ := Aside0.mk hm
         have hqb2 := HC.out
         have hJ2 := HJ2.out
         by_cases hj2 : m < 66
         ·have hlm : decide (m < 66) = true := decide_eq_true hj2
          have hlm2 : decide ((m : Int) < 66) = true := decide_eq_true (by omega)
          have hA3 := HA3.out
          rw [show 66 - q.gap - j = (66 - q.gap - (j + 1)) + 1 by omega, mk_next, ← hm] at hA3
          obtain ⟨t, A1', hA3⟩ := Option.bind_eq_some_iff.1 hA3
          have HT := Aside0.mk A1'
          have HA4 := Aside0.mk hA3
          have HM := Aside0.mk hj2
          have hi1 : (m < 66) = True := eq_true hj2
          have hi2 : ((m : Int) < 66) = True := eq_true (by omega)
          have hi3 : (j < 66) = True := eq_true (by omega)
          have hi4 : ((j : Int) < 66) = True := eq_true (by omega)
          have hwm : wrap64 ((j : Int) + (q.gap : Int)) = (m : Int) := by unfold wrap64; omega
          clear hA3 A1' HA3 hm hj2 hqb2 hJ2
          have hv2 : IntKind.i64.wrap ((j : Int) + (q.gap : Int)) = (m : Int) := by rw [i64_w]; exact hwm
          go_wp2
          refine start_ (n := 13) (S := fun w' => w'.cell? ⟨g17, m, none⟩ = some (.int .u8 (rd x (m : Int))) ∧ w'.cell? ⟨g7, j, none⟩ = some (.int .u8 (rd q.old (j : Int)))) (ds := [12]) #[false, false, false, false, false, false, false, false, false, false, false, false, false] (by kernel_rfl) rfl rfl ⟨(PX.out.drew.cell m HM.out), (HK6.out.drew.p7.cell j (by have := HM.out; have := HMJ.out; omega))⟩ (fun hHeld => ?_)
          refine pz_ 0 73 ?_ T2m0_ rfl rfl (by kernel_rfl) ?_ ?_ ?_ ?_; rotate_left; intro w'; go_simp; with_reducible rfl; rotate_left; simp only [nm_]; rfl
          refine pz_ 1 74 ?_ T2m1_ rfl rfl (by kernel_rfl) ?_ ?_ ?_ ?_; rotate_left; intro w'; go_simp; with_reducible rfl; rotate_left; simp only [nm_]; rfl
          refine pz_ 2 75 ?_ T2m2_ rfl rfl (by kernel_rfl) ?_ ?_ ?_ ?_; rotate_left; intro w'; go_simp; with_reducible rfl; rotate_left; simp only [nm_]; rfl
          refine pz_ 3 76 ?_ T2m3_ rfl rfl (by kernel_rfl) ?_ ?_ ?_ ?_; rotate_left; intro w'; go_simp; with_reducible rfl; rotate_left; simp only [nm_]; rfl
          refine pz_ 5 78 ?_ T2m4_ rfl rfl (by kernel_rfl) ?_ ?_ ?_ ?_; rotate_left; intro w'; go_simp; with_reducible rfl; rotate_left; simp only [nm_]; rfl
          refine pz_ 6 79 ?_ T2m5_ rfl rfl (by kernel_rfl) ?_ ?_ ?_ ?_; rotate_left; intro w'; go_simp; with_reducible rfl; rotate_left; simp only [nm_]; rfl
          refine pz_ 7 80 ?_ T2m6_ rfl rfl (by kernel_rfl) ?_ ?_ ?_ ?_; rotate_left; intro w'; go_simp; with_reducible rfl; rotate_left; simp only [nm_]; rfl
          refine tz_ 4 77 ?_ T2m7_ rfl rfl (by kernel_rfl) ?_ hHeld ?_ ?_ ?_; rotate_left; rintro w' ⟨s0, s1⟩; go_simp; with_reducible rfl; rotate_left; simp only [nm_]; rfl
          refine tz_ 8 81 ?_ T2m8_ rfl rfl (by kernel_rfl) ?_ hHeld ?_ ?_ ?_; rotate_left; rintro w' ⟨s0, s1⟩; go_simp; with_reducible rfl; rotate_left; simp only [nm_]; rfl
          refine one_ (i := 9) (N := some 82) #[true, true, true, true, true, true, true, true, true, true, false, false, false] rfl rfl (by kernel_rfl) (by decide) (fun K hK => ?_)
          refine goes_ Try.func64 (by kernel_rfl) rfl #[.int .u8 b1, .int .u8 (rd q.old (j : Int))] (by rfl) rfl rfl (by simp only [List.map_toArray, List.map_cons, List.map_nil]; rfl) ?_
          with_reducible refine (field_Times.calls k b1 (rd q.old (j : Int)) t _ HT.out).mono ?_
          rintro e wd ⟨rfl, hdr⟩
          refine ⟨_, rfl, ?_⟩
          have HKa := Aside0.mk (HK6.out.drew.drawn hdr)
          have PXa := Aside0.mk (PX.out.drew.drawn hdr)
          have HFa := PXa.out.frozen m
          clear hdr
          refine hK.out _ _ ⟨PXa.out.cell m HM.out, HKa.out.p7.cell j (by have := HM.out; have := HMJ.out; omega)⟩ (fun hHeld => ?_)
          clear hK K
          refine norm_ (a' := ?_) ?_ ?_
          rotate_left
          ·show Act.put _ (some 82) _ = _
           simp only [nm_]
           rfl
          refine pz_ 10 83 ?_ T2m9_ rfl rfl (by kernel_rfl) ?_ ?_ ?_ ?_; rotate_left; intro w'; go_simp; with_reducible rfl; rotate_left; simp only [nm_]; rfl
          refine pz_ 11 84 ?_ T2m10_ rfl rfl (by kernel_rfl) ?_ ?_ ?_ ?_; rotate_left; intro w'; go_simp; with_reducible rfl; rotate_left; simp only [nm_]; rfl
          refine last_ (i := 12) (N := none) #[true, true, true, true, true, true, true, true, true, true, true, true, true] rfl rfl (by kernel_rfl) (by decide) (fun K hK => ?_)
          refine skip_ (w1 := ?_) (by rfl) rfl ?_ ?_
          rotate_left
          ·go_simp
           rfl
          have PXb := Aside0.mk (PXa.out.put m (Go.bits .xor .u8 (rd x (m : Int)) t))
          have HKb := Aside0.mk (HKa.out.far G17.out m (.int .u8 (Go.bits .xor .u8 (rd x (m : Int)) t)))
          refine hK.out _ _ ?_
          clear hK K
          refine done_ (by kernel_rfl) ?_
          clear HKa PXa hwm hv2 hi1 hi2 hi3 hi4 hlm hlm2
          generalize (wd.setCell ⟨g17, m, none⟩ (.int .u8 (Go.bits .xor .u8 (rd x (m : Int)) t))) = w9 at *
          go_wp2
          go_roundg (68 - q.gap - (j + 1))
          case measure => have := HJ2.out; have := HM.out; have := HMJ.out; omega
          case rel => exact ⟨j + 1, x.set m (Go.bits .xor .u8 (rd x (m : Int)) t), congrArg (fun y => Value.int .i64 y) (mk_w rfl (by omega) (by have := HM.out; have := HMJ.out; omega)), ⟨by have := HM.out; have := HMJ.out; omega⟩, ⟨by rw [show 66 - q.gap - (j + 1) = 66 - q.gap - (j + 1) from rfl]; exact HA4.out⟩, PXb, HKb⟩
         ·have hlm : decide (m < 66) = false := decide_eq_false hj2
          have hlm2 : decide ((m : Int) < 66) = false := decide_eq_false (by omega)
          have hA3 := HA3.out
          rw [show 66 - q.gap - j = 0 by omega, mk_next] at hA3
          obtain rfl := Option.some.inj hA3
          have hq2 := HQ2.out
          have hN := HN.out
          have hNn := HNn.out
          clear hA3 HA3 hj2
          have B1 := Aside0.mk (show (0 : Int) ≤ 2 * (q.l : Int) ∧ 2 * (q.l : Int) ≤ 1000000 from by omega)
          have B2 := Aside0.mk (show (0 : Int) ≤ (n : Int) + (f : Int) ∧ (n : Int) + (f : Int) ≤ 1000000 from by omega)
          have B3 := Aside0.mk (show ((j : Int) + (q.gap : Int)) = (m : Int) ∧ (0 : Int) ≤ (m : Int) ∧ (m : Int) ≤ 1000000 from by omega)
          have B4 := Aside0.mk (show (q.l : Int) ≤ (n : Int) + 1 + (f : Int) ∧ (n : Int) + 1 + (f : Int) - (q.l : Int) = ((n + 1 + f - q.l : Nat) : Int) ∧ (n : Int) + 1 + (f : Int) ≤ 1000000 ∧ 0 ≤ (n : Int) + 1 + (f : Int) ∧ ((n + 1 + f - q.l : Nat) : Int) ≤ 1000000 ∨ n + f < 2 * q.l from by omega)
          clear hm hN hNn hJ2 hqb2
          by_cases h2l : 2 * q.l ≤ n + f
          ·have hlt2 : decide (2 * (q.l : Int) ≤ (n : Int) + (f : Int)) = true := decide_eq_true (by omega)
           have hlt3 : decide (2 * q.l ≤ n + f) = true := decide_eq_true h2l
           rw [if_pos h2l] at hq2
           obtain rfl := Option.some.inj hq2
           have hwl : wrap64 (2 * (q.l : Int)) = 2 * (q.l : Int) := mk_w rfl B1.out.1 B1.out.2
           have hwnf : wrap64 ((n : Int) + (f : Int)) = (n : Int) + (f : Int) := mk_w rfl B2.out.1 B2.out.2
           have hwm : wrap64 ((j : Int) + (q.gap : Int)) = (m : Int) := mk_w B3.out.1 B3.out.2.1 B3.out.2.2
           have hb4 := B4.out.resolve_right (Nat.not_lt.2 h2l)
           have hw11 : wrap64 ((n : Int) + 1 + (f : Int)) = (n : Int) + 1 + (f : Int) := mk_w rfl hb4.2.2.2.1 hb4.2.2.1
           have hw12 : wrap64 ((n : Int) + 1 + (f : Int) - (q.l : Int)) = ((n + 1 + f - q.l : Nat) : Int) := mk_w hb4.2.1 (Int.natCast_nonneg _) hb4.2.2.2.2
           clear hq2 hb4
           go_wp2_with (first
            | ((with_reducible refine gate_dst (N := 91) rfl ?_); refine load137_event rfl rfl (.tmp 6) rfl (g := g6) (xs := q.now) rfl HK6.out.p6 ?_)
            | ((with_reducible refine gate_store (t := 137) (p := 7) rfl ?_); refine store137_event (p := .tmp 7) (v := .tmp 91) rfl rfl rfl (g := g7) (ys := q.now) rfl rfl HK6.out.p7 HK6.out.p6.len ?_; have HK7 := Aside0.mk (HK6.out.row7 q.now HK6.out.p6.len); have PX7 := Aside0.mk (PX.out.other (Nat.ne_of_gt G17.out) (mk8 q.now).toArray))
            | ((with_reducible refine gate_dst (N := 101) rfl ?_); refine load137_event rfl rfl (.tmp 17) rfl (g := g17) (xs := x) rfl PX7.out ?_)
            | ((with_reducible refine gate_store (t := 137) (p := 6) rfl ?_); refine store137_event (p := .tmp 6) (v := .tmp 101) rfl rfl rfl (g := g6) (ys := x) rfl rfl HK7.out.p6 PX7.out.len ?_; have HK8 := Aside0.mk (HK7.out.row6 x PX7.out.len)))
           have HW10 := Aside0.mk hw10
           have HW12 := Aside0.mk hw12
           clear hw9 hw10 hw11 hw12 hwl hwnf hwm
           go_roundg (s.length - (n + 1) + 1)
           case measure => have := HN.out; have := HNn.out; omega
           case rel => exact ⟨n + 1, ⟨x, q.now, n + 1 + f - q.l, d, 1⟩, by first | rfl | exact congrArg (fun y => Value.int .i64 y) HW12.out, rfl, rfl, (by first | exact congrArg (fun y => Value.int .i64 y) HW10.out | rfl | (simp; done)), ⟨rfl, by have := HN.out; omega, by have := HNn.out; omega⟩, HA1, HK8⟩
          ·have hlt2 : decide (2 * (q.l : Int) ≤ (n : Int) + (f : Int)) = false := decide_eq_false (by omega)
           have hlt3 : decide (2 * q.l ≤ n + f) = false := decide_eq_false h2l
           rw [if_neg h2l] at hq2
           obtain rfl := Option.some.inj hq2
           have hwl : wrap64 (2 * (q.l : Int)) = 2 * (q.l : Int) := mk_w rfl B1.out.1 B1.out.2
           have hwnf : wrap64 ((n : Int) + (f : Int)) = (n : Int) + (f : Int) := mk_w rfl B2.out.1 B2.out.2
           have hwm : wrap64 ((j : Int) + (q.gap : Int)) = (m : Int) := mk_w B3.out.1 B3.out.2.1 B3.out.2.2
           clear hq2
           go_wp2_with (first
            | ((with_reducible refine gate_dst (N := 101) rfl ?_); refine load137_event rfl rfl (.tmp 17) rfl (g := g17) (xs := x) rfl PX.out ?_)
            | ((with_reducible refine gate_store (t := 137) (p := 6) rfl ?_); refine store137_event (p := .tmp 6) (v := .tmp 101) rfl rfl rfl (g := g6) (ys := x) rfl rfl HK6.out.p6 PX.out.len ?_; have HK8 := Aside0.mk (HK6.out.row6 x PX.out.len)))
           have HW9 := Aside0.mk hw9
           have HW10 := Aside0.mk hw10
           clear hw9 hw10 hwl hwnf hwm
           go_roundg (s.length - (n + 1) + 1)
           case measure => have := HN.out; have := HNn.out; omega
           case rel => exact ⟨n + 1, { q with now := x, gap := q.gap + 1 }, rfl, rfl, by first | rfl | exact congrArg (fun y => Value.int .i64 y) HW9.out, (by first | exact congrArg (fun y => Value.int .i64 y) HW10.out | rfl | (simp; done)), ⟨rfl, by have := HN.out; omega, by have := HNn.out; omega⟩, HA1, HK8⟩)
   ·rw [if_neg hcap] at hq1
    cases hq1
  ·have hlt : decide (n < s.length) = false := decide_eq_false hn
   have hA := HA.out
   rw [show s.length - n = 0 by omega, mk_loop] at hA
   obtain rfl := Option.some.inj hA
   obtain ⟨z4, hz4⟩ := HKr.out.p4
   have HZ4 := Aside0.mk hz4
   clear hn hA HA hz4
   go_wp2_with (first
    | ((with_reducible refine gate_dst (N := 102) rfl ?_); refine load137_event rfl rfl (.tmp 6) rfl (g := g6) (xs := q.now) rfl HKr.out.p6 ?_)
    | ((with_reducible refine gate_store (t := 137) (p := 4) rfl ?_); refine store137_event (p := .tmp 4) (v := .tmp 102) rfl rfl rfl (g := g4) (ys := q.now) rfl rfl HZ4.out HKr.out.p6.len ?_))
   refine bodyPost_ret (results_ct rfl _ _ g4 137 (mk8 q.now).toArray (0, 0) _ rfl (HZ4.out.row HKr.out.p6.len).blk Try.underlying137 rfl (by rw [List.size_toArray, show (mk8 q.now).length = 66 by unfold mk8; rw [List.length_map]; exact HKr.out.p6.len]; kernel_rfl)) rfl ?_
   exact ⟨rfl, below_setRow HKr.out.b HKr.out.lo⟩
structure MW2 (W0 W : World) (g13 g15 : Nat) (p ov : List Int) : Prop where
 p13 : Pol W g13 p
 p15 : Pol W g15 ov
 lo : W0.heap.size ≤ g13
 o1 : g13 < g15
 b : Below W0.heap.size W0 W
theorem MW2.drew {W0 W : World} {g13 g15 : Nat} {p ov : List Int} (h : MW2 W0 W g13 g15 p ov) : MW2 W0 W.drew g13 g15 p ov := ⟨h.p13.drew, h.p15.drew, h.lo, h.o1, below_drew h.b⟩
theorem MW2.drawn {W0 W W1 : World} {g13 g15 : Nat} {p ov : List Int} (h : MW2 W0 W g13 g15 p ov) (hd : Drawn0 W W1) : MW2 W0 W1 g13 g15 p ov := ⟨h.p13.drawn hd, h.p15.drawn hd, h.lo, h.o1, by obtain ⟨n, rfl⟩ := hd.out; exact pw_below_drewN h.b n⟩
theorem MW2.put {W0 W : World} {g13 g15 : Nat} {p ov : List Int} (h : MW2 W0 W g13 g15 p ov) (i : Nat) (v : Int) : MW2 W0 (W.setCell ⟨g15, i, none⟩ (.int .u8 v)) g13 g15 p (ov.set i v) :=
 ⟨h.p13.far (Nat.ne_of_lt h.o1) _, h.p15.put i v, h.lo, h.o1, below_set h.b (Nat.le_trans h.lo (Nat.le_of_lt h.o1))⟩
theorem MW2.then_ {W0 W W1 : World} {g13 g15 : Nat} {p ov : List Int} (h : MW2 W0 W g13 g15 p ov) (hb : Below W.heap.size W W1) : MW2 W0 W1 g13 g15 p ov := ⟨h.p13.below hb, h.p15.below hb, h.lo, h.o1, below_step h.b hb⟩
theorem MW2.far {W0 W : World} {g13 g15 g : Nat} {p ov : List Int} (h : MW2 W0 W g13 g15 p ov) (hg : g15 < g) (j : Nat) (v : Value) : MW2 W0 (W.setCell ⟨g, j, none⟩ v) g13 g15 p ov :=
 ⟨h.p13.far (Nat.ne_of_lt (Nat.lt_trans h.o1 hg)) v, h.p15.far (Nat.ne_of_lt hg) v, h.lo, h.o1, below_set h.b (Nat.le_trans h.lo (Nat.le_of_lt (Nat.lt_trans h.o1 hg)))⟩
theorem set_rd (xs : List Int) (j : Nat) : xs.set j (rd xs (j : Int)) = xs := by
 unfold rd
 rw [Int.toNat_natCast, List.getD_eq_getElem?_getD]
 by_cases h : j < xs.length
 ·rw [List.getElem?_eq_getElem h]
  exact List.set_getElem_self h
 ·rw [List.set_eq_of_length_le (by omega)]
theorem rd_set (xs : List Int) (j : Nat) (d : Int) (h : j < xs.length) : rd (xs.set j d) (j : Int) = d := by
 unfold rd
 rw [Int.toNat_natCast, List.getD_eq_getElem?_getD, List.getElem?_set_self h]
 rfl
section
variable {ops : Array Oper} {rest : List Oper} {o : Oper} {a : Act} {Q : Exit → Act → World → Prop} {W : World}
theorem conv29_event (hgd : o.guard = none) {N : Tmp} (hd : o.dst = some N) (x : Operand) (ho : o.op = .convert 9 29 x) {s : ByteArray} (hx : a.eval x = .string s) (hl : s.size ≤ 1000000)
  (h : ∀ g cap, g = W.heap.size → ∀ w1, (Kd.int .u8).Q 5 w1 g (fun _ => True) (.slice (some ⟨g, 0, none⟩) s.size cap) (bytesOf s) → s.size ≤ cap → g < w1.heap.size → Below W.heap.size W w1 → wpList Try.prog ops Q rest (a.put o.dst (.slice (some ⟨g, 0, none⟩) s.size cap)) w1) : wpList Try.prog ops Q (o :: rest) a W := by
 have hq := ConvW.conv_Q (W := W) (w0 := W) (ok := fun _ => True) W.heap.size 5 (s := s) trivial (Below.refl _ _) (Nat.le_refl _) (by omega)
 have hrun : (execOp a.eval o).run Try.prog W = .ok (.value (.slice (some ⟨W.heap.size, 0, none⟩) s.size (grownCap W s.size 0 5))) (Go.Lib.bytesWorld W 5 s) := by
  unfold execOp
  rw [ho]
  show Sem.run Try.prog (convert 9 29 (a.eval x) >>= fun x => pure (Next.value x)) W = _
  rw [hx, Sem.run_bind, Go.Lib.run_convert_string_bytes W 9 29 5 s Try.underlying9 Try.underlying29 Try.underlying5]
  rfl
 exact Kd.event_run hgd hrun (h _ _ rfl _ hq.1 (grownCap_ge W s.size 0 5) (by rw [Go.Lib.bytesWorld_size]; omega) hq.2)
end
structure BQ (W : World) (g n cap : Nat) (b : List Int) : Prop where
 q : (Kd.int .u8).Q 5 W g (fun _ => True) (.slice (some ⟨g, 0, none⟩) n cap) b
 len : b.length = n
 lt : g < W.heap.size
theorem BQ.below {W W1 : World} {g n cap : Nat} {b : List Int} (h : BQ W g n cap b) (hb : Below W.heap.size W W1) : BQ W1 g n cap b := ⟨Kd.Q_below h.q hb, h.len, Nat.lt_of_lt_of_le h.lt hb.size⟩
theorem BQ.drawn {W W1 : World} {g n cap : Nat} {b : List Int} (h : BQ W g n cap b) (hd : Drawn0 W W1) : BQ W1 g n cap b := h.below hd.below
theorem BQ.put {W : World} {g n cap : Nat} {b : List Int} (h : BQ W g n cap b) (i : Nat) (hi : i < n) (v : Int) : BQ (W.setCell ⟨g, i, none⟩ (.int .u8 v)) g n cap (b.set i v) := by
 have hq := Kd.Q_putg h.q (i : Int) (by omega) (by omega) v
 rw [Int.toNat_natCast, Nat.zero_add] at hq
 exact ⟨hq.1, by rw [List.length_set]; exact h.len, Nat.lt_of_lt_of_le h.lt hq.2.size⟩
theorem BQ.cell {W : World} {g n cap : Nat} {b : List Int} (h : BQ W g n cap b) (i : Nat) (hi : i < n) : W.cell? ⟨g, i, none⟩ = some (.int .u8 (rd b (i : Int))) ∧ W.frozen? ⟨g, i, none⟩ = false := by
 have hq := Kd.Q_cell (0 : Int) h.q (i : Int) (by omega) (by omega)
 rw [Int.toNat_natCast, Nat.zero_add] at hq
 exact hq
theorem BQ.string {W : World} {g n cap : Nat} {b : List Int} (h : BQ W g n cap b) : (convert 29 9 (.slice (some ⟨g, 0, none⟩) n cap)).run Try.prog W = .ok (.string (strOfNums b)) W := Kd.C_string (P := Try.prog) (A := some ⟨g, 0, none⟩) (n := n) (c := cap) (xs := b) Try.underlying29 Try.underlying5 Try.underlying9 (h.len ▸ (Kd.Q_reads' h.q).2.2)
set_option maxHeartbeats 8000000 in
set_option maxRecDepth 100000 in
theorem pol_mend (k : Nat) (a0 : ByteArray) (a1 : Int) (A2 : Option Addr) (c2 : Nat) (l2 : List Bool) (A3 : Option Addr) (c3 : Nat) (l3 : List Int) (s : List Int) (s2 : Int) (lo : List Int) (q : Kst) (w : World)
  (hr2 : Kd.C Kd.bool w A2 l2.length l2) (hc2 : l2.length ≤ c2) (hr3 : Kd.C (Kd.int .i64) w A3 l3.length l3) (hc3 : l3.length ≤ c3) (hs : reed_Syndromes.f k a0 a1 = some (s, s2)) (hlo : mend_locator.f k l3 (a0.size : Int) = some lo)
  (hk1 : 1 ≤ lo.length) (hk2 : lo.length ≤ 66) (hk3 : s.length ≤ 1000) (hkey : mk_loop k s (lo.length - 1) (s.length - (lo.length - 1)) (lo.length - 1) ⟨mk_pad lo, mk_pad lo, lo.length - 1, 1, 1⟩ = some q) (hdeg : q.l ≤ s.length) (ha1 : a1 = (s.length : Int)) (ha2 : 1 ≤ s.length) (ha3 : s.length ≤ 64) (ha4 : a0.size ≤ 1000000) (hq66 : q.now.length = 66)
  (ov : List Int) (hov : mk_over k q.now s q.l s.length 0 mk_zeros = some ov) (ob : Option (List Int)) (hfix : mk_fix k a0.size s.length q.l q.now ov (mk_slope q.now ((q.l + 1) / 2) 1 mk_zeros) a0.size 0 (bytesOf a0) = some ob) (r1 : ByteArray) (r2 : Bool) (hend : mk_end k a0 a1 l2 l3.length ob = some (r1, r2)) :
  Calls Try.prog 87 #[.string a0, .int .i64 a1, .slice A2 l2.length c2, .slice A3 l3.length c3] w fun e w' => e = .returned (.tuple #[.string r1, .bool r2]) ∧ Below w.heap.size w w' := by
 have HR2 := Aside0.mk hr2
 have HC2 := Aside0.mk hc2
 have HR3 := Aside0.mk hr3
 have HC3 := Aside0.mk hc3
 have HSY := Aside0.mk hs
 have HLO := Aside0.mk hlo
 have HKY := Aside0.mk hkey
 have HK1 := Aside0.mk hk1
 have HK2 := Aside0.mk hk2
 have HK3 := Aside0.mk hk3
 have HOV := Aside0.mk hov
 have HFX := Aside0.mk hfix
 have HEN := Aside0.mk hend
 have HDG := Aside0.mk hdeg
 have HA2 := Aside0.mk ha2
 have HA3 := Aside0.mk ha3
 have HA4 := Aside0.mk ha4
 have HA1 := Aside0.mk ha1
 have HQ66 := Aside0.mk hq66
 have hgt : decide (s.length < q.l) = false := decide_eq_false (by omega)
 have hgt2 : decide ((q.l : Int) > (s.length : Int)) = false := decide_eq_false (by omega)
 subst ha1
 have hu137 := Try.underlying137
 clear hr2 hc2 hr3 hc3 hs hlo hkey hk1 hk2 hk3 hov hfix hend hdeg ha2 ha3 ha4 hq66
 go_enter Try.func87, Try.ntmps87
 go_wp2_with (first
  | (go_at_call 22; (with_reducible refine (reed_Syndromes.calls k a0 (s.length : Int) s s2 _ HSY.out).mono ?_); rintro e w1 ⟨v0, rfl, hR, hb⟩; obtain ⟨As, cs, rfl, hcs, hCs⟩ := Kd.R_reads hR; have HB1 := Aside0.mk hb; have HS1 := Aside0.mk hCs; have HCS0 := Aside0.mk hcs; clear hR hb hCs hcs)
  | (go_at_call 100; (with_reducible refine (mend_locator.calls k A3 c3 l3 (a0.size : Int) lo _ (Kd.C_below HR3.out HB1.out) HC3.out HLO.out).mono ?_); rintro e w2 ⟨v0, rfl, hR, hb⟩; obtain ⟨Al, cl, rfl, hcl, hCl⟩ := Kd.R_reads hR; have HB2 := Aside0.mk (below_step HB1.out hb); have HS2 := Aside0.mk (Kd.C_below HS1.out hb); have HL2 := Aside0.mk hCl; have HCL := Aside0.mk hcl; clear hR hb hCl hcl)
  | (go_at_call 105; (with_reducible refine (pol_key k s lo q As cs Al cl _ HS2.out HCS0.out HL2.out HCL.out HK1.out HK2.out HK3.out HKY.out).mono ?_); rintro e w4 ⟨rfl, hb⟩; have HB4 := Aside0.mk (below_step HB2.out hb); have HS4 := Aside0.mk (Kd.C_below HS2.out hb); clear hb HB1 HB2 HS1 HS2 HL2 HCL)
  | ((with_reducible refine gate_dst (N := 13) rfl ?_); refine alloc137_event rfl rfl rfl ?_; intro g13 hg13 w5 hp hb; have G13 := Aside0.mk hg13; have P13 := Aside0.mk hp; have HB5 := Aside0.mk hb; clear hg13 hp hb)
  | ((with_reducible refine gate_store (t := 137) (p := 13) rfl ?_); refine store137_event (p := .tmp 13) (v := .tmp 44) rfl rfl rfl (g := g13) (ys := q.now) rfl rfl P13.out HQ66.out ?_; have P13b := Aside0.mk (P13.out.row HQ66.out); have HB6 := Aside0.mk (below_setRow HB5.out (Nat.le_of_eq G13.out.symm) (cs := (mk8 q.now).toArray)); clear P13 HB5; generalize w5.setRow g13 (mk8 q.now).toArray = w6 at *)
  | ((with_reducible refine gate_dst (N := 15) rfl ?_); refine alloc137_event rfl rfl rfl ?_; intro g15 hg15 w7 hp hb; have HM := Aside0.mk (show MW2 w4 w7 g13 g15 q.now mk_zeros from ⟨P13b.out.below hb, hp, Nat.le_of_eq G13.out.symm, by have := P13b.out.lt; omega, below_step HB6.out hb⟩); clear hg15 hp hb P13b HB6))
 have hgx : True := trivial
 clear hgt hgt2
 go_loopg [50] (s.length + 1) (fun kq v50 w' => ∃ (j : Nat) (x : List Int), v50 = .int .i64 (j : Int) ∧ Aside0 (j + kq = s.length + 1) ∧ Aside0 (mk_over k q.now s q.l (s.length - j) j x = some ov) ∧ Aside0 (MW2 w4 w' g13 g15 q.now x))
 case atStart => exact ⟨0, mk_zeros, rfl, ⟨by omega⟩, HOV, HM⟩
 case round =>
  clear HOV HM
  obtain ⟨j, x, rfl, HJ, HA, HM⟩ := hrel
  by_cases hj : j < s.length
  ·have hlt : decide (j < s.length) = true := decide_eq_true hj
   have HJN := Aside0.mk hj
   have hA := HA.out
   rw [show s.length - j = (s.length - (j + 1)) + 1 by omega, mk_over] at hA
   obtain ⟨v, hv, hA⟩ := Option.bind_eq_some_iff.1 hA
   have HD := Aside0.mk hv
   have HA1 := Aside0.mk hA
   clear hA hv HA hj
   go_wp2
   go_loopg [17] (min q.l j + 2) (fun kq v17 w' => ∃ (jj : Nat) (d : Int), v17 = .int .i64 (jj : Int) ∧ Aside0 (jj + kq = min q.l j + 2 ∧ jj ≤ min q.l j + 1) ∧ Aside0 (mk_disc k q.now s j (min q.l j + 1 - jj) jj d = some v) ∧ Aside0 (MW2 w4 w' g13 g15 q.now (x.set j d)))
   case atStart => exact ⟨0, rd x (j : Int), rfl, ⟨by omega, by omega⟩, HD, ⟨by rw [set_rd]; exact HM.out⟩⟩
   case round =>
    have HMx := Aside0.mk HM.out.p15.len
    clear HD HM
    obtain ⟨jj, d, rfl, HJ2, HA, HM2⟩ := hrel
    by_cases hjj : jj ≤ min q.l j
    ·have h1 : decide (jj ≤ q.l) = true := decide_eq_true (by omega)
     have h2 : decide (jj ≤ j) = true := decide_eq_true (by omega)
     have hA := HA.out
     rw [show min q.l j + 1 - jj = (min q.l j + 1 - (jj + 1)) + 1 by omega, mk_disc] at hA
     obtain ⟨t, A1', hA⟩ := Option.bind_eq_some_iff.1 hA
     have HT := Aside0.mk A1'
     have HA2' := Aside0.mk hA
     have hjn := HJN.out
     have hs64 := HA3.out
     have HJJ := Aside0.mk (show jj < 66 from by omega)
     have HJL := Aside0.mk hjj
     obtain ⟨ad1, e1, hcs0⟩ := Kd.at_int HS4.out ((j - jj : Nat) : Int) (by omega) (by omega)
     subst e1
     rw [Int.toNat_natCast] at hcs0
     have HCS := Aside0.mk (show ∀ W : World, Below w4.heap.size w4 W → W.cell? (ad1.add (j - jj)) = some (.int .u8 (rd s ((j - jj : Nat) : Int))) from fun W hb => (hb.cell (World.block_lt_of_cell? w4 _ hcs0)).trans hcs0)
     have hjx : j < x.length := by have := HMx.out; omega
     have HC15 := Aside0.mk (show ∀ W : World, MW2 w4 W g13 g15 q.now (x.set j d) → W.cell? ⟨g15, j, none⟩ = some (.int .u8 d) from fun W h => (h.p15.cell j (by omega)).trans (by rw [rd_set x j d hjx]))
     have hi1 : (j - jj < s.length) = True := eq_true (by omega)
     have hi2 : (jj < 66) = True := eq_true (by omega)
     have hi3 : ((jj : Int) < 66) = True := eq_true (by omega)
     have hi4 : (j < 66) = True := eq_true (by omega)
     have hi5 : ((j : Int) < 66) = True := eq_true (by omega)
     have hw1 : wrap64 ((j : Int) - (jj : Int)) = ((j - jj : Nat) : Int) := mk_w (by omega) (by omega) (by omega)
     have hv1 : IntKind.i64.wrap ((j : Int) - (jj : Int)) = ((j - jj : Nat) : Int) := by rw [i64_w]; exact hw1
     clear hA A1' HA hjj hjn hs64 hcs0 hjx
     go_wp2
     refine start_ (n := 16) (S := fun w' => w'.cell? ⟨g15, j, none⟩ = some (.int .u8 d) ∧ w'.cell? ⟨g13, jj, none⟩ = some (.int .u8 (rd q.now (jj : Int))) ∧ w'.cell? (ad1.add (j - jj)) = some (.int .u8 (rd s ((j - jj : Nat) : Int)))) (ds := [15]) #[false, false, false, false, false, false, false, false, false, false, false, false, false, false, false, false] (by kernel_rfl) rfl rfl ⟨(HC15.out _ HM2.out.drew), (HM2.out.drew.p13.cell jj HJJ.out), (HCS.out _ HM2.out.drew.b)⟩ (fun hHeld => ?_)
     refine pz_ 0 63 ?_ T2m11_ rfl rfl (by kernel_rfl) ?_ ?_ ?_ ?_; rotate_left; intro w'; go_simp; with_reducible rfl; rotate_left; simp only [nm_]; rfl
     refine pz_ 1 64 ?_ T2m12_ rfl rfl (by kernel_rfl) ?_ ?_ ?_ ?_; rotate_left; intro w'; go_simp; with_reducible rfl; rotate_left; simp only [nm_]; rfl
     refine pz_ 3 66 ?_ T2m13_ rfl rfl (by kernel_rfl) ?_ ?_ ?_ ?_; rotate_left; intro w'; go_simp; with_reducible rfl; rotate_left; simp only [nm_]; rfl
     refine pz_ 4 67 ?_ T2m14_ rfl rfl (by kernel_rfl) ?_ ?_ ?_ ?_; rotate_left; intro w'; go_simp; with_reducible rfl; rotate_left; simp only [nm_]; rfl
     refine pz_ 6 69 ?_ T2m15_ rfl rfl (by kernel_rfl) ?_ ?_ ?_ ?_; rotate_left; intro w'; go_simp; with_reducible rfl; rotate_left; simp only [nm_]; rfl
     refine pz_ 7 70 ?_ T2m16_ rfl rfl (by kernel_rfl) ?_ ?_ ?_ ?_; rotate_left; intro w'; go_simp; with_reducible rfl; rotate_left; simp only [nm_]; rfl
     refine pz_ 8 71 ?_ T2m17_ rfl rfl (by kernel_rfl) ?_ ?_ ?_ ?_; rotate_left; intro w'; go_simp; with_reducible rfl; rotate_left; simp only [nm_]; rfl
     refine pz_ 9 72 ?_ T2m18_ rfl rfl (by kernel_rfl) ?_ ?_ ?_ ?_; rotate_left; intro w'; go_simp; with_reducible rfl; rotate_left; simp only [nm_]; rfl
     refine pz_ 10 73 ?_ T2m19_ rfl rfl (by kernel_rfl) ?_ ?_ ?_ ?_; rotate_left; intro w'; go_simp; with_reducible rfl; rotate_left; simp only [nm_]; rfl
     refine tz_ 2 65 ?_ T2m20_ rfl rfl (by kernel_rfl) ?_ hHeld ?_ ?_ ?_; rotate_left; rintro w' ⟨s0, s1, s2⟩; go_simp; with_reducible rfl; rotate_left; simp only [nm_]; rfl
     refine tz_ 5 68 ?_ T2m21_ rfl rfl (by kernel_rfl) ?_ hHeld ?_ ?_ ?_; rotate_left; rintro w' ⟨s0, s1, s2⟩; go_simp; with_reducible rfl; rotate_left; simp only [nm_]; rfl
     refine tz_ 11 74 ?_ T2m22_ rfl rfl (by kernel_rfl) ?_ hHeld ?_ ?_ ?_; rotate_left; rintro w' ⟨s0, s1, s2⟩; go_simp; with_reducible rfl; rotate_left; simp only [nm_]; rfl
     refine one_ (i := 12) (N := some 75) #[true, true, true, true, true, true, true, true, true, true, true, true, true, false, false, false] rfl rfl (by kernel_rfl) (by decide) (fun K hK => ?_)
     refine goes_ Try.func64 (by kernel_rfl) rfl #[.int .u8 (rd q.now (jj : Int)), .int .u8 (rd s ((j - jj : Nat) : Int))] (by rfl) rfl rfl (by simp only [List.map_toArray, List.map_cons, List.map_nil]; rfl) ?_
     with_reducible refine (field_Times.calls k (rd q.now (jj : Int)) (rd s ((j - jj : Nat) : Int)) t _ HT.out).mono ?_
     rintro e wd ⟨rfl, hdr⟩
     refine ⟨_, rfl, ?_⟩
     have HMa := Aside0.mk (HM2.out.drew.drawn hdr)
     have HFa := HMa.out.p15.frozen j
     clear hdr
     refine hK.out _ _ ⟨(HC15.out _ HMa.out), (HMa.out.p13.cell jj HJJ.out), (HCS.out _ HMa.out.b)⟩ (fun hHeld => ?_)
     clear hK K
     refine norm_ (a' := ?_) ?_ ?_
     rotate_left
     ·show Act.put _ (some 75) _ = _
      simp only [nm_]
      rfl
     refine pz_ 13 76 ?_ T2m23_ rfl rfl (by kernel_rfl) ?_ ?_ ?_ ?_; rotate_left; intro w'; go_simp; with_reducible rfl; rotate_left; simp only [nm_]; rfl
     refine pz_ 14 77 ?_ T2m24_ rfl rfl (by kernel_rfl) ?_ ?_ ?_ ?_; rotate_left; intro w'; go_simp; with_reducible rfl; rotate_left; simp only [nm_]; rfl
     refine last_ (i := 15) (N := none) #[true, true, true, true, true, true, true, true, true, true, true, true, true, true, true, true] rfl rfl (by kernel_rfl) (by decide) (fun K hK => ?_)
     refine skip_ (w1 := ?_) (by rfl) rfl ?_ ?_
     rotate_left
     ·go_simp
      rfl
     have HMb := Aside0.mk (HMa.out.put j (Go.bits .xor .u8 d t))
     refine hK.out _ _ ?_
     clear hK K
     refine done_ (by kernel_rfl) ?_
     clear hw1 hv1 hi1 hi2 hi3 hi4 hi5 h1 h2 HMa HM2
     generalize (wd.setCell ⟨g15, j, none⟩ (.int .u8 (Go.bits .xor .u8 d t))) = w9 at *
     go_wp2
     go_roundg (min q.l j + 2 - (jj + 1))
     case measure => have := HJ2.out; have := HJL.out; omega
     case rel => exact ⟨jj + 1, _, congrArg (fun y => Value.int .i64 y) (mk_w rfl (by omega) (by have := HJJ.out; omega)), ⟨by have := HJ2.out; have := HJL.out; omega, by have := HJL.out; omega⟩, HA2', ⟨by have := HMb.out; rw [List.set_set] at this; exact this⟩⟩
    ·have hA := HA.out
     rw [show min q.l j + 1 - jj = 0 by omega, mk_disc] at hA
     obtain rfl := Option.some.inj hA
     have hx : decide (jj ≤ q.l) = false ∨ (decide (jj ≤ q.l) = true ∧ decide (jj ≤ j) = false) := by
      by_cases c : jj ≤ q.l
      ·exact Or.inr ⟨decide_eq_true c, decide_eq_false (by omega)⟩
      ·exact Or.inl (decide_eq_false c)
     have hjn : j ≤ 64 := Nat.le_trans (Nat.le_of_lt HJN.out) HA3.out
     clear hA HA hjj HMx
     rcases hx with h1 | ⟨h1, h2⟩
     all_goals (
      go_wp2
      go_roundg (s.length + 1 - (j + 1))
      case measure => have := HJ.out; have := HJN.out; omega
      case rel => exact ⟨j + 1, _, (by first | rfl | (simp; done) | exact congrArg (fun y => Value.int .i64 y) (mk_w rfl (by omega) (by omega))), ⟨by have := HJ.out; have := HJN.out; omega⟩, HA1, HM2⟩)
  ·have hlt : decide (j < s.length) = false := decide_eq_false hj
   have hA := HA.out
   rw [show s.length - j = 0 by omega, mk_over] at hA
   obtain rfl := Option.some.inj hA
   clear hA HA hj
   go_wp2_with (first
    | ((with_reducible refine gate_dst (N := 18) rfl ?_); refine alloc137_event rfl rfl rfl ?_; intro g18 hg18 w8 hp hb; have G18 := Aside0.mk (show g15 < g18 from by have := HM.out.p15.lt; omega); have P18 := Aside0.mk hp; have HMc := Aside0.mk (HM.out.then_ hb); clear hg18 hp hb))
   obtain ⟨slf, hslf⟩ : ∃ z, z = mk_slope q.now ((q.l + 1) / 2) 1 mk_zeros := ⟨_, rfl⟩
   rw [← hslf] at HFX
   have HSL := Aside0.mk hslf.symm
   clear hslf HJ HM hlt
   go_loopg [19] ((q.l + 1) / 2 + 1) (fun kq v19 w' => ∃ (i jj : Nat) (y : List Int), v19 = .int .i64 (jj : Int) ∧ Aside0 (jj = 2 * i + 1 ∧ i ≤ (q.l + 1) / 2 ∧ kq = (q.l + 1) / 2 + 1 - i) ∧ Aside0 (mk_slope q.now ((q.l + 1) / 2 - i) jj y = slf) ∧ Aside0 (Pol w' g18 y) ∧ Aside0 (MW2 w4 w' g13 g15 q.now x))
   case atStart => exact ⟨0, 1, mk_zeros, rfl, ⟨rfl, Nat.zero_le _, rfl⟩, HSL, P18, HMc⟩
   case round =>
    clear HSL P18 HMc
    obtain ⟨i, jj, y, rfl, HJ, HA, PY, HM⟩ := hrel
    have hJ := HJ.out
    have hl64 : q.l ≤ 64 := Nat.le_trans HDG.out HA3.out
    by_cases hjj : jj ≤ q.l
    ·have h1 : decide (jj ≤ q.l) = true := decide_eq_true hjj
     have hA := HA.out
     rw [show (q.l + 1) / 2 - i = ((q.l + 1) / 2 - (i + 1)) + 1 by omega, mk_slope] at hA
     have HA' := Aside0.mk hA
     have HJL := Aside0.mk (show jj ≤ 64 ∧ 1 ≤ jj ∧ i + 1 ≤ (q.l + 1) / 2 from by omega)
     obtain ⟨m, hm⟩ : ∃ m, m = jj - 1 := ⟨_, rfl⟩
     rw [← hm] at HA'
     have hm64 : m < 66 := by omega
     have hc13 : wr.cell? ⟨g13, jj, none⟩ = some (.int .u8 (rd q.now (jj : Int))) := HM.out.p13.cell jj (by omega)
     have hc18 : wr.cell? ⟨g18, m, none⟩ = some (.int .u8 (rd y (m : Int))) := PY.out.cell m hm64
     have hf18 : wr.frozen? ⟨g18, m, none⟩ = false := PY.out.frozen m
     have hi1 : (jj < 66) = True := eq_true (by omega)
     have hi2 : ((jj : Int) < 66) = True := eq_true (by omega)
     have hi3 : (m < 66) = True := eq_true hm64
     have hi4 : ((m : Int) < 66) = True := eq_true (by omega)
     have hw1 : wrap64 ((jj : Int) - 1) = (m : Int) := mk_w (by omega) (by omega) (by omega)
     have hv1 : IntKind.i64.wrap ((jj : Int) - 1) = (m : Int) := by rw [i64_w]; exact hw1
     have PYb := Aside0.mk (PY.out.put m (rd q.now (jj : Int)))
     have HMd := Aside0.mk (HM.out.far G18.out m (.int .u8 (rd q.now (jj : Int))))
     clear hA HA hjj hm64 hJ hl64 hm
     go_wp2
     clear h1 hc13 hc18 hf18 hi1 hi2 hi3 hi4 hw1 hv1 PY HM
     generalize (wr.setCell ⟨g18, m, none⟩ (.int .u8 (rd q.now (jj : Int)))) = w9 at *
     go_roundg ((q.l + 1) / 2 + 1 - (i + 1))
     case measure => have := HJ.out; have := HJL.out; omega
     case rel => exact ⟨i + 1, jj + 2, _, congrArg (fun y => Value.int .i64 y) (mk_w rfl (by omega) (by have := HJL.out; omega)), ⟨by have := HJ.out; omega, by have := HJL.out; omega, rfl⟩, HA', PYb, HMd⟩
    ·have h1 : decide (jj ≤ q.l) = false := decide_eq_false hjj
     have hA := HA.out
     rw [show (q.l + 1) / 2 - i = 0 by omega, mk_slope] at hA
     subst hA
     clear HA hJ hl64 hjj HJ
     go_wp2_with (first
      | ((with_reducible refine gate_dst (N := 91) rfl ?_); refine conv29_event rfl rfl (.tmp 90) rfl (s := a0) rfl HA4.out ?_; intro g20 cap20 hg20 w9 hq hcap hlt20 hb; have G20 := Aside0.mk (show g18 < g20 from by have := PY.out.lt; omega); have HBQ := Aside0.mk (show BQ w9 g20 a0.size cap20 (bytesOf a0) from ⟨hq, bytesOf_length a0, hlt20⟩); have HMe := Aside0.mk (HM.out.then_ hb); have PYe := Aside0.mk (PY.out.below hb); clear hg20 hq hcap hlt20 hb HM PY))
     go_loopg [94] (a0.size + 1) (fun kq v94 w' => ∃ (i : Nat) (b : List Int), v94 = .int .i64 (i : Int) ∧ Aside0 (i + kq = a0.size + 1) ∧ Aside0 (mk_fix k a0.size s.length q.l q.now x y (a0.size - i) i b = some ob) ∧ Aside0 (BQ w' g20 a0.size cap20 b) ∧ Aside0 (Pol w' g18 y) ∧ Aside0 (MW2 w4 w' g13 g15 q.now x))
     case atStart => exact ⟨0, bytesOf a0, rfl, ⟨by omega⟩, HFX, HBQ, PYe, HMe⟩
     case round =>
      clear HFX HBQ PYe HMe
      obtain ⟨i, b, rfl, HJ, HA, HBQ, PY, HM⟩ := hrel
      by_cases hi : i < a0.size
      ·have hlt : decide (i < a0.size) = true := decide_eq_true hi
       have hA := HA.out
       rw [show a0.size - i = (a0.size - (i + 1)) + 1 by omega, mk_fix] at hA
       obtain ⟨xx, h1, hA⟩ := Option.bind_eq_some_iff.1 hA
       obtain ⟨⟨y1, y2⟩, h2, hA⟩ := Option.bind_eq_some_iff.1 hA
       obtain ⟨zz, h3, hA⟩ := Option.bind_eq_some_iff.1 hA
       have HU := Aside0.mk h1
       have HO := Aside0.mk h2
       have HZ := Aside0.mk h3
       have HI := Aside0.mk hi
       have hd66 : q.l < 66 := Nat.lt_of_le_of_lt (Nat.le_trans HDG.out HA3.out) (by decide)
       have HD66 := Aside0.mk hd66
       clear h1 h2 h3 hi HA hd66
       by_cases hz : zz = 0
       ·rw [if_pos hz] at hA
        obtain ⟨uu, h1, hA⟩ := Option.bind_eq_some_iff.1 hA
        obtain ⟨tt, h2, hA⟩ := Option.bind_eq_some_iff.1 hA
        obtain ⟨vv, h3, hA⟩ := Option.bind_eq_some_iff.1 hA
        obtain ⟨⟨e1, e2⟩, h4, hA⟩ := Option.bind_eq_some_iff.1 hA
        have HUU := Aside0.mk (show mk_at k x y1 ((s.length - 1) + 1) 0 = some uu from by rw [Nat.sub_add_cancel HA2.out]; exact h1)
        have HTT := Aside0.mk h2
        have HVV := Aside0.mk h3
        have HEE := Aside0.mk h4
        have hzb : (zz != 0) = false := by rw [hz]; rfl
        have HR66 := Aside0.mk (show s.length - 1 < 66 from by have := HA3.out; omega)
        have hwr : wrap64 ((s.length : Int) - 1) = ((s.length - 1 : Nat) : Int) := mk_w (by have := HA2.out; omega) (by omega) (by have := HA3.out; omega)
        clear h1 h2 h3 h4 hz
        by_cases he : e2 = 0
        ·rw [if_pos he] at hA
         have HAr := Aside0.mk hA
         have heb : (e2 != 0) = false := by rw [he]; rfl
         clear hA he
         have hI1 : (i < a0.size) = True := eq_true HI.out
         have hI2 : ((i : Int) < (a0.size : Int)) = True := eq_true (by have := HI.out; omega)
         go_wp2_with (first
          | (go_at_call 106; (with_reducible refine (mend_unit.calls k (i : Int) (a0.size : Int) xx _ HU.out).mono ?_); rintro e wa ⟨rfl, hdr⟩; have HMa := Aside0.mk (HM.out.drawn hdr); have PYa := Aside0.mk (PY.out.drawn hdr); have HBQa := Aside0.mk (HBQ.out.drawn hdr); clear hdr HM PY HBQ)
          | (go_at_call 107; (with_reducible refine (field_Over.calls k 1 xx y1 y2 _ HO.out).mono ?_); rintro e wb ⟨rfl, hdr⟩; have HMb := Aside0.mk (HMa.out.drawn hdr); have PYb := Aside0.mk (PYa.out.drawn hdr); have HBQb := Aside0.mk (HBQa.out.drawn hdr); clear hdr HMa PYa HBQa)
          | (go_at_call 108; (with_reducible refine (pol_at k q.now y1 q.l g13 zz _ HMb.out.p13 HD66.out HZ.out).mono ?_); rintro e wc ⟨rfl, hdr⟩; have HMc := Aside0.mk (HMb.out.drawn hdr); have PYc := Aside0.mk (PYb.out.drawn hdr); have HBQc := Aside0.mk (HBQb.out.drawn hdr); clear hdr HMb PYb HBQb)
          | (go_at_call 108; (with_reducible refine (pol_at k x y1 (s.length - 1) g15 uu _ HMc.out.p15 HR66.out HUU.out).mono ?_); rintro e wd ⟨rfl, hdr⟩; have HMd := Aside0.mk (HMc.out.drawn hdr); have PYd := Aside0.mk (PYc.out.drawn hdr); have HBQd := Aside0.mk (HBQc.out.drawn hdr); clear hdr HMc PYc HBQc)
          | (go_at_call 64; (with_reducible refine (field_Times.calls k xx uu tt _ HTT.out).mono ?_); rintro e we ⟨rfl, hdr⟩; have HMe := Aside0.mk (HMd.out.drawn hdr); have PYe := Aside0.mk (PYd.out.drawn hdr); have HBQe := Aside0.mk (HBQd.out.drawn hdr); clear hdr HMd PYd HBQd)
          | (go_at_call 108; (with_reducible refine (pol_at k y y1 q.l g18 vv _ PYe.out HD66.out HVV.out).mono ?_); rintro e wf ⟨rfl, hdr⟩; have HMf := Aside0.mk (HMe.out.drawn hdr); have PYf := Aside0.mk (PYe.out.drawn hdr); have HBQf := Aside0.mk (HBQe.out.drawn hdr); clear hdr HMe PYe HBQe)
          | (go_at_call 107; (with_reducible refine (field_Over.calls k tt vv e1 e2 _ HEE.out).mono ?_); rintro e wg ⟨rfl, hdr⟩; have HMg := Aside0.mk (HMf.out.drawn hdr); have PYg := Aside0.mk (PYf.out.drawn hdr); have HBQg := Aside0.mk (HBQf.out.drawn hdr); clear hdr HMf PYf HBQf; have hcb := (HBQg.out.cell i HI.out).1; have hfb := (HBQg.out.cell i HI.out).2))
         have HBQh := Aside0.mk (HBQg.out.put i HI.out (Go.bits .xor .u8 (rd b (i : Int)) e1))
         have PYh := Aside0.mk (PYg.out.far (Nat.ne_of_lt G20.out) (j := i) (.int .u8 (Go.bits .xor .u8 (rd b (i : Int)) e1)))
         have HMh := Aside0.mk (HMg.out.far (Nat.lt_trans G18.out G20.out) i (.int .u8 (Go.bits .xor .u8 (rd b (i : Int)) e1)))
         clear HBQg PYg HMg hcb hfb hI1 hI2
         generalize (wg.setCell ⟨g20, i, none⟩ (.int .u8 (Go.bits .xor .u8 (rd b (i : Int)) e1))) = wh at *
         go_roundg (a0.size + 1 - (i + 1))
         case measure => have := HJ.out; have := HI.out; omega
         case rel => exact ⟨i + 1, _, by first | rfl | (simp; done) | exact congrArg (fun y => Value.int .i64 y) (mk_w rfl (by omega) (by have := HI.out; have := HA4.out; omega)), ⟨by have := HJ.out; have := HI.out; omega⟩, HAr, HBQh, PYh, HMh⟩
        ·rw [if_neg he] at hA
         obtain rfl := Option.some.inj hA
         have hend := HEN.out
         rw [mk_end] at hend
         have hpe := Option.some.inj hend
         simp only [Prod.mk.injEq] at hpe
         obtain ⟨rfl, rfl⟩ := hpe
         have heb : (e2 != 0) = true := bne_iff_ne.2 he
         clear hA he hend HEN
         go_wp2_with (first
          | (go_at_call 106; (with_reducible refine (mend_unit.calls k (i : Int) (a0.size : Int) xx _ HU.out).mono ?_); rintro e wa ⟨rfl, hdr⟩; have HMa := Aside0.mk (HM.out.drawn hdr); have PYa := Aside0.mk (PY.out.drawn hdr); have HBQa := Aside0.mk (HBQ.out.drawn hdr); clear hdr HM PY HBQ)
          | (go_at_call 107; (with_reducible refine (field_Over.calls k 1 xx y1 y2 _ HO.out).mono ?_); rintro e wb ⟨rfl, hdr⟩; have HMb := Aside0.mk (HMa.out.drawn hdr); have PYb := Aside0.mk (PYa.out.drawn hdr); have HBQb := Aside0.mk (HBQa.out.drawn hdr); clear hdr HMa PYa HBQa)
          | (go_at_call 108; (with_reducible refine (pol_at k q.now y1 q.l g13 zz _ HMb.out.p13 HD66.out HZ.out).mono ?_); rintro e wc ⟨rfl, hdr⟩; have HMc := Aside0.mk (HMb.out.drawn hdr); have PYc := Aside0.mk (PYb.out.drawn hdr); have HBQc := Aside0.mk (HBQb.out.drawn hdr); clear hdr HMb PYb HBQb)
          | (go_at_call 108; (with_reducible refine (pol_at k x y1 (s.length - 1) g15 uu _ HMc.out.p15 HR66.out HUU.out).mono ?_); rintro e wd ⟨rfl, hdr⟩; have HMd := Aside0.mk (HMc.out.drawn hdr); have PYd := Aside0.mk (PYc.out.drawn hdr); have HBQd := Aside0.mk (HBQc.out.drawn hdr); clear hdr HMc PYc HBQc)
          | (go_at_call 64; (with_reducible refine (field_Times.calls k xx uu tt _ HTT.out).mono ?_); rintro e we ⟨rfl, hdr⟩; have HMe := Aside0.mk (HMd.out.drawn hdr); have PYe := Aside0.mk (PYd.out.drawn hdr); have HBQe := Aside0.mk (HBQd.out.drawn hdr); clear hdr HMd PYd HBQd)
          | (go_at_call 108; (with_reducible refine (pol_at k y y1 q.l g18 vv _ PYe.out HD66.out HVV.out).mono ?_); rintro e wf ⟨rfl, hdr⟩; have HMf := Aside0.mk (HMe.out.drawn hdr); have PYf := Aside0.mk (PYe.out.drawn hdr); have HBQf := Aside0.mk (HBQe.out.drawn hdr); clear hdr HMe PYe HBQe)
          | (go_at_call 107; (with_reducible refine (field_Over.calls k tt vv e1 e2 _ HEE.out).mono ?_); rintro e wg ⟨rfl, hdr⟩; have HMg := Aside0.mk (HMf.out.drawn hdr); have PYg := Aside0.mk (PYf.out.drawn hdr); have HBQg := Aside0.mk (HBQf.out.drawn hdr); clear hdr HMf PYf HBQf))
         go_ret2
         exact ⟨rfl, below_step HB4.out HMg.out.b⟩
       ·rw [if_neg hz] at hA
        have HAr := Aside0.mk hA
        have hzb : (zz != 0) = true := bne_iff_ne.2 hz
        clear hA hz
        go_wp2_with (first
         | (go_at_call 106; (with_reducible refine (mend_unit.calls k (i : Int) (a0.size : Int) xx _ HU.out).mono ?_); rintro e wa ⟨rfl, hdr⟩; have HMa := Aside0.mk (HM.out.drawn hdr); have PYa := Aside0.mk (PY.out.drawn hdr); have HBQa := Aside0.mk (HBQ.out.drawn hdr); clear hdr HM PY HBQ)
         | (go_at_call 107; (with_reducible refine (field_Over.calls k 1 xx y1 y2 _ HO.out).mono ?_); rintro e wb ⟨rfl, hdr⟩; have HMb := Aside0.mk (HMa.out.drawn hdr); have PYb := Aside0.mk (PYa.out.drawn hdr); have HBQb := Aside0.mk (HBQa.out.drawn hdr); clear hdr HMa PYa HBQa)
         | (go_at_call 108; (with_reducible refine (pol_at k q.now y1 q.l g13 zz _ HMb.out.p13 HD66.out HZ.out).mono ?_); rintro e wc ⟨rfl, hdr⟩; have HMc := Aside0.mk (HMb.out.drawn hdr); have PYc := Aside0.mk (PYb.out.drawn hdr); have HBQc := Aside0.mk (HBQb.out.drawn hdr); clear hdr HMb PYb HBQb))
        go_roundg (a0.size + 1 - (i + 1))
        case measure => have := HJ.out; have := HI.out; omega
        case rel => exact ⟨i + 1, b, by first | rfl | (simp; done) | exact congrArg (fun y => Value.int .i64 y) (mk_w rfl (by omega) (by have := HI.out; have := HA4.out; omega)), ⟨by have := HJ.out; have := HI.out; omega⟩, HAr, HBQc, PYc, HMc⟩
      ·have hlt : decide (i < a0.size) = false := decide_eq_false hi
       have hA := HA.out
       rw [show a0.size - i = 0 by omega, mk_fix] at hA
       obtain rfl := Option.some.inj hA
       have hen := HEN.out
       rw [mk_end] at hen
       obtain ⟨⟨b1, b2⟩, hwh, hen⟩ := Option.bind_eq_some_iff.1 hen
       have HWH := Aside0.mk hwh
       have hstr := HBQ.out.string
       have HB6 := Aside0.mk (below_step HB4.out HM.out.b)
       clear hA HA hi hwh HEN
       by_cases hb1 : b1 = true
       ·subst hb1
        rw [if_pos rfl] at hen
        obtain ⟨wi, hwi, hen⟩ := Option.bind_eq_some_iff.1 hen
        have HWI := Aside0.mk hwi
        clear hwi
        cases wi with
        | true =>
         rw [if_pos rfl] at hen
         have hpe := Option.some.inj hen
         simp only [Prod.mk.injEq] at hpe
         obtain ⟨rfl, rfl⟩ := hpe
         clear hen
         go_wp2_with (first
          | (go_at_call 21; (with_reducible refine (reed_Whole.calls k (strOfNums b) (s.length : Int) true b2 _ HWH.out).mono ?_); rintro e wa ⟨rfl, hb⟩; have HB7 := Aside0.mk (below_step HB6.out hb); clear hb)
          | (go_at_call 90; (with_reducible refine (mend_within.calls k a0 (strOfNums b) (s.length : Int) A2 c2 l2 (l3.length : Int) _ _ (Kd.C_below HR2.out HB7.out) HC2.out HWI.out).mono ?_); rintro e wb ⟨rfl, hb⟩; have HB8 := Aside0.mk (below_step HB7.out hb); clear hb))
         go_ret2
         exact ⟨rfl, HB8.out⟩
        | false =>
         rw [if_neg Bool.false_ne_true] at hen
         have hpe := Option.some.inj hen
         simp only [Prod.mk.injEq] at hpe
         obtain ⟨rfl, rfl⟩ := hpe
         clear hen
         go_wp2_with (first
          | (go_at_call 21; (with_reducible refine (reed_Whole.calls k (strOfNums b) (s.length : Int) true b2 _ HWH.out).mono ?_); rintro e wa ⟨rfl, hb⟩; have HB7 := Aside0.mk (below_step HB6.out hb); clear hb)
          | (go_at_call 90; (with_reducible refine (mend_within.calls k a0 (strOfNums b) (s.length : Int) A2 c2 l2 (l3.length : Int) _ _ (Kd.C_below HR2.out HB7.out) HC2.out HWI.out).mono ?_); rintro e wb ⟨rfl, hb⟩; have HB8 := Aside0.mk (below_step HB7.out hb); clear hb))
         go_ret2
         exact ⟨rfl, HB8.out⟩
       ·have hb1' : b1 = false := by simpa using hb1
        subst hb1'
        rw [if_neg hb1] at hen
        have hpe := Option.some.inj hen
        simp only [Prod.mk.injEq] at hpe
        obtain ⟨rfl, rfl⟩ := hpe
        clear hen hb1
        go_wp2_with (first
         | (go_at_call 21; (with_reducible refine (reed_Whole.calls k (strOfNums b) (s.length : Int) false b2 _ HWH.out).mono ?_); rintro e wa ⟨rfl, hb⟩; have HB7 := Aside0.mk (below_step HB6.out hb); clear hb))
        go_ret2
        exact ⟨rfl, HB7.out⟩
set_option maxHeartbeats 8000000 in
set_option maxRecDepth 100000 in
theorem pol_mend_over (k : Nat) (a0 : ByteArray) (a1 : Int) (A2 : Option Addr) (c2 : Nat) (l2 : List Bool) (A3 : Option Addr) (c3 : Nat) (l3 : List Int) (s : List Int) (s2 : Int) (lo : List Int) (q : Kst) (w : World)
  (hr3 : Kd.C (Kd.int .i64) w A3 l3.length l3) (hc3 : l3.length ≤ c3) (hs : reed_Syndromes.f k a0 a1 = some (s, s2)) (hlo : mend_locator.f k l3 (a0.size : Int) = some lo)
  (hk1 : 1 ≤ lo.length) (hk2 : lo.length ≤ 66) (hk3 : s.length ≤ 1000) (hkey : mk_loop k s (lo.length - 1) (s.length - (lo.length - 1)) (lo.length - 1) ⟨mk_pad lo, mk_pad lo, lo.length - 1, 1, 1⟩ = some q) (hdeg : (q.l : Int) > a1) (hq66 : q.now.length = 66) :
  Calls Try.prog 87 #[.string a0, .int .i64 a1, .slice A2 l2.length c2, .slice A3 l3.length c3] w fun e w' => e = .returned (.tuple #[.string ⟨#[]⟩, .bool false]) ∧ Below w.heap.size w w' := by
 have HR3 := Aside0.mk hr3
 have HC3 := Aside0.mk hc3
 have HSY := Aside0.mk hs
 have HLO := Aside0.mk hlo
 have HKY := Aside0.mk hkey
 have HK1 := Aside0.mk hk1
 have HK2 := Aside0.mk hk2
 have HK3 := Aside0.mk hk3
 have HQ66 := Aside0.mk hq66
 have hgt2 : decide ((q.l : Int) > a1) = true := decide_eq_true hdeg
 have hgt3 : decide (a1 < (q.l : Int)) = true := decide_eq_true hdeg
 have hu137 := Try.underlying137
 clear hr3 hc3 hs hlo hkey hk1 hk2 hk3 hdeg hq66
 go_enter Try.func87, Try.ntmps87
 go_wp2_with (first
  | (go_at_call 22; (with_reducible refine (reed_Syndromes.calls k a0 a1 s s2 _ HSY.out).mono ?_); rintro e w1 ⟨v0, rfl, hR, hb⟩; obtain ⟨As, cs, rfl, hcs, hCs⟩ := Kd.R_reads hR; have HB1 := Aside0.mk hb; have HS1 := Aside0.mk hCs; have HCS0 := Aside0.mk hcs; clear hR hb hCs hcs)
  | (go_at_call 100; (with_reducible refine (mend_locator.calls k A3 c3 l3 (a0.size : Int) lo _ (Kd.C_below HR3.out HB1.out) HC3.out HLO.out).mono ?_); rintro e w2 ⟨v0, rfl, hR, hb⟩; obtain ⟨Al, cl, rfl, hcl, hCl⟩ := Kd.R_reads hR; have HB2 := Aside0.mk (below_step HB1.out hb); have HS2 := Aside0.mk (Kd.C_below HS1.out hb); have HL2 := Aside0.mk hCl; have HCL := Aside0.mk hcl; clear hR hb hCl hcl)
  | (go_at_call 105; (with_reducible refine (pol_key k s lo q As cs Al cl _ HS2.out HCS0.out HL2.out HCL.out HK1.out HK2.out HK3.out HKY.out).mono ?_); rintro e w4 ⟨rfl, hb⟩; have HB4 := Aside0.mk (below_step HB2.out hb); have HS4 := Aside0.mk (Kd.C_below HS2.out hb); clear hb HB1 HB2 HS1 HS2 HL2 HCL)
  | ((with_reducible refine gate_dst (N := 13) rfl ?_); refine alloc137_event rfl rfl rfl ?_; intro g13 hg13 w5 hp hb; have G13 := Aside0.mk hg13; have P13 := Aside0.mk hp; have HB5 := Aside0.mk hb; clear hg13 hp hb)
  | ((with_reducible refine gate_store (t := 137) (p := 13) rfl ?_); refine store137_event (p := .tmp 13) (v := .tmp 44) rfl rfl rfl (g := g13) (ys := q.now) rfl rfl P13.out HQ66.out ?_; have HB6 := Aside0.mk (below_step HB4.out (below_setRow HB5.out (Nat.le_of_eq G13.out.symm) (cs := (mk8 q.now).toArray))); clear P13 HB5; generalize w5.setRow g13 (mk8 q.now).toArray = w6 at *))
 go_ret2
 exact ⟨rfl, HB6.out⟩
theorem mk_next_len (k : Nat) (b : Int) (old : List Int) (gap : Nat) : ∀ c j (x y : List Int), mk_next k b old gap c j x = some y → y.length = x.length
 | 0, _, _, _, h => by rw [mk_next] at h; rw [Option.some.inj h]
 | c + 1, j, x, y, h => by
  rw [mk_next] at h
  obtain ⟨t, _, h⟩ := Option.bind_eq_some_iff.1 h
  rw [mk_next_len k b old gap c (j + 1) _ y h, List.length_set]
theorem mk_round_len (k : Nat) (s : List Int) (f n : Nat) (q r : Kst) (h : mk_round k s f n q = some r) (hq : q.now.length = 66) : r.now.length = 66 := by
 unfold mk_round at h
 split at h
 ·obtain ⟨d, _, h⟩ := Option.bind_eq_some_iff.1 h
  split at h
  ·rw [← Option.some.inj h]
   exact hq
  ·obtain ⟨b, _, h⟩ := Option.bind_eq_some_iff.1 h
   obtain ⟨x, hx, h⟩ := Option.bind_eq_some_iff.1 h
   have hl := (mk_next_len _ _ _ _ _ _ _ _ hx).trans hq
   split at h
   ·rw [← Option.some.inj h]
    exact hl
   ·rw [← Option.some.inj h]
    exact hl
 ·cases h
theorem mk_loop_len (k : Nat) (s : List Int) (f : Nat) : ∀ c n (q r : Kst), mk_loop k s f c n q = some r → q.now.length = 66 → r.now.length = 66
 | 0, _, q, r, h, hq => by rw [mk_loop] at h; rw [← Option.some.inj h]; exact hq
 | c + 1, n, q, r, h, hq => by
  rw [mk_loop] at h
  obtain ⟨q1, h1, h⟩ := Option.bind_eq_some_iff.1 h
  exact mk_loop_len k s f c (n + 1) q1 r h (mk_round_len k s f n q q1 h1 hq)
theorem mend_mend.calls (k : Nat) (a0 : ByteArray) (a1 : Int) (A2 : Option Addr) (c2 : Nat) (l2 : List Bool) (A3 : Option Addr) (c3 : Nat) (l3 : List Int) (r1 : ByteArray) (r2 : Bool) (w : World) (hr2 : Kd.C Kd.bool w A2 l2.length l2) (hc2 : l2.length ≤ c2) (hr3 : Kd.C (Kd.int .i64) w A3 l3.length l3) (hc3 : l3.length ≤ c3) (h : mend_mend.f k a0 a1 l2 l3 = some (r1, r2)) :
  Calls Try.prog 87 #[.string a0, .int .i64 a1, .slice A2 l2.length c2, .slice A3 l3.length c3] w fun e w' => e = .returned (.tuple #[.string r1, .bool r2]) ∧ Below w.heap.size w w' := by
 unfold mend_mend.f at h
 obtain ⟨⟨s, s2⟩, hs, h⟩ := Option.bind_eq_some_iff.1 h
 obtain ⟨lo, hlo, h⟩ := Option.bind_eq_some_iff.1 h
 obtain ⟨⟨p, deg⟩, hk, h⟩ := Option.bind_eq_some_iff.1 h
 unfold mk_key at hk
 split at hk
 ·rename_i hc
  obtain ⟨q, hq, hk⟩ := Option.bind_eq_some_iff.1 hk
  have hk := Option.some.inj hk
  simp only [Prod.mk.injEq] at hk
  obtain ⟨rfl, rfl⟩ := hk
  have h66 : q.now.length = 66 := mk_loop_len _ _ _ _ _ _ _ hq (mk_pad_len lo hc.2.1)
  split at h
  ·rename_i hd
   have hpe := Option.some.inj h
   simp only [Prod.mk.injEq] at hpe
   obtain ⟨rfl, rfl⟩ := hpe
   exact pol_mend_over k a0 a1 A2 c2 l2 A3 c3 l3 s s2 lo q w hr3 hc3 hs hlo hc.1 hc.2.1 hc.2.2 hq hd h66
  ·rename_i hd
   split at h
   ·rename_i hh
    obtain ⟨ov, hov, h⟩ := Option.bind_eq_some_iff.1 h
    obtain ⟨ob, hob, h⟩ := Option.bind_eq_some_iff.1 h
    have e1 : a1 = (s.length : Int) := hh.2.2.1
    exact pol_mend k a0 a1 A2 c2 l2 A3 c3 l3 s s2 lo q w hr2 hc2 hr3 hc3 hs hlo hc.1 hc.2.1 hc.2.2 hq (by omega) e1 (by omega) (by omega) hh.2.2.2 h66 ov hov ob hob r1 r2 h
   ·cases h
 ·cases hk
set_option maxHeartbeats 8000000 in
set_option maxRecDepth 100000 in
theorem mend_rising.calls (k : Nat) (A0 : Option Addr) (c0 : Nat) (l0 : List Bool) (r : List Int) (w : World) (hr0 : Kd.C Kd.bool w A0 l0.length l0) (hc0 : l0.length ≤ c0) (h : mend_rising.f k l0 = some r) :
  Calls Try.prog 89 #[.slice A0 l0.length c0] w fun e w' => ∃ v0_ : Value, e = .returned (v0_) ∧ Kd.R (Kd.int .i64) 3 w' w.heap.size (fun _ => True) v0_ r ∧ Below w.heap.size w w' := by
 have HR0 := Aside0.mk hr0
 have HC0 := Aside0.mk hc0
 clear hr0 hc0
 have HB := Aside0.mk (Below.refl w.heap.size w)
 have H : (mend_rising.l0 k ([] : List Int) l0 (l0.length : Int) 0) = some r := h
 clear h
 have H' := Aside0.mk H
 clear H
 go_enter Try.func89, Try.ntmps89
 go_wp2
 go_loopg [3, 8] k (fun kq v3 v8 w' => ∃ (x3_1 : List Int) (x8_1 : Int), v8 = .int .i64 x8_1 ∧ Aside0 (mend_rising.l0 kq x3_1 l0 (l0.length : Int) x8_1 = some r) ∧ Aside0 (kq ≤ k) ∧ Aside0 (Kd.R (Kd.int .i64) 3 w' w.heap.size (fun _ => True) v3 x3_1) ∧ Aside0 (Below w.heap.size w w'))
 case atStart => exact ⟨(([] : List Int)), (0), (by rfl), H', ⟨Nat.le_refl _⟩, ⟨by first | exact Kd.R_nil _ _ _ _ _ | exact Kd.N_nil _ _ _ _ _ | exact Kd.V_nil _ _ _ _ _ | exact Kd.Q_nil _ _ _ _ _ | exact Kd.S_nil _ _ _ _ _⟩, ⟨HB.out⟩⟩
 case round =>
  clear H'
  obtain ⟨x3_1, x8_1, rfl, HA, HK1, HO_3, HB⟩ := hrel
  cases gk with
  | zero => exact absurd HA.out (by simp [mend_rising.l0])
  | succ k1 =>
   have H := HA.out
   clear HA
   simp only [mend_rising.l0] at H
   by_cases c2 : x8_1 < (l0.length : Int)
   ·rw [if_pos c2] at H
    have c2b0 : decide (x8_1 < (l0.length : Int)) = true := decide_eq_true c2
    clear c2
    by_cases c3 : 0 ≤ x8_1
    ·rw [if_pos c3] at H
     have c3b0 : decide (0 ≤ x8_1) = true := decide_eq_true c3
     clear c3
     by_cases c4 : x8_1 < (l0.length : Int)
     ·rw [if_pos c4] at H
      have c4b0 : decide (x8_1 < (l0.length : Int)) = true := decide_eq_true c4
      clear c4
      obtain ⟨bq5, hbq5⟩ : ∃ b_ : Bool, b_ = (rdOf false l0 x8_1) := ⟨_, rfl⟩
      replace H : (if bq5 = true then (if x3_1.length < 17592186044416 then (mend_rising.l0 k1 (x3_1 ++ [x8_1]) l0 (l0.length : Int) (wrap64 (x8_1 + 1))) else (none)) else (mend_rising.l0 k1 x3_1 l0 (l0.length : Int) (wrap64 (x8_1 + 1)))) = some r := by rw [← hbq5] at H; exact H
      have Nbq5 := Aside0.mk hbq5
      clear hbq5
      by_cases c6 : bq5 = true
      ·subst c6
       have H1 : (if x3_1.length < 17592186044416 then (mend_rising.l0 k1 (x3_1 ++ [x8_1]) l0 (l0.length : Int) (wrap64 (x8_1 + 1))) else (none)) = some r := by rw [if_pos rfl] at H; exact H
       clear H
       have H := H1
       clear H1
       by_cases c7 : x3_1.length < 17592186044416
       ·rw [if_pos c7] at H
        have LMc7 := Aside0.mk c7
        clear c7
        obtain ⟨y767, hy767⟩ : ∃ y_ : List Int, y_ = (x3_1 ++ [x8_1]) := ⟨_, rfl⟩
        replace H : (mend_rising.l0 k1 y767 l0 (l0.length : Int) (wrap64 (x8_1 + 1))) = some r := by first | (rw [hy767]; exact H) | exact H
        have Ny767 := Aside0.mk hy767
        clear hy767
        have H' := Aside0.mk H
        clear H
        have p766 : 0 ≤ (x8_1 : Int) := of_decide_eq_true (by assumption)
        have q766 : x8_1 < (l0.length : Int) := of_decide_eq_true (by assumption)
        obtain ⟨ad766, e766, hx766_0⟩ := Kd.at_bool HR0.out x8_1 p766 q766
        (try rw [← Nbq5.out] at hx766_0)
        cases e766
        replace hx766_0 := (HB.out.cell (World.block_lt_of_cell? w _ hx766_0)).trans hx766_0
        replace p766 := eq_true p766
        replace q766 := eq_true q766
        go_wp2_with (first | ((with_reducible refine gate_builtin (b := .append) (xs := #[.tmp 14, .tmp 16]) rfl ?_); at_builtin; refine Kd.R_append (Kd.int .i64) (w0 := w) w.heap.size rfl (.tmp 14) (.tmp 16) 60 3 (.int .i64 0) 8 rfl Try.underlying60 info3 rfl (by decide) (by omega) u3 x3_1 x8_1 [.int .i64 x8_1] (fun _ => True) (fun _ => False) rfl rfl ?aP (fun _ hk => hk.elim) ?aF ?aO ?aB ?aS ?aL ?_; (case aP => exact rfl); (case aB => exact HB.out); (case aF => exact (fun _ _ => trivial)); (case aO => exact HO_3.out); (case aS => exact (below_size HB.out)); (case aL => have := LMc7.out; omega); intro v768 w8 ho hb hg hat; rw [← Ny767.out] at ho; have n0_ := Aside0.mk (hb); have n1_ := Aside0.mk (ho); clear HB; clear HO_3; have HB := n0_; have HO769 := n1_; clear n0_ n1_; clear ho hb hg hat))
        first | go_roundg k1 | (simp only [add_plain] at *; go_roundg k1)
        case measure => have := HK1.out; omega
        case rel => exact ⟨(y767), (wrap64 (x8_1 + 1)), (by rfl), H', ⟨by have := HK1.out; omega⟩, ⟨by (with_reducible repeat (first | apply Kd.R_alloc | apply Kd.R_drewN | apply Kd.R_drew)); exact HO769.out⟩, ⟨HB.out⟩⟩
       ·rw [if_neg c7] at H
        exact absurd H (by simp)
      ·replace c6 := Bool.eq_false_iff.mpr c6
       subst c6
       have H1 : (mend_rising.l0 k1 x3_1 l0 (l0.length : Int) (wrap64 (x8_1 + 1))) = some r := by rw [if_neg (show ¬ (false = true) by decide)] at H; exact H
       clear H
       have H := H1
       clear H1
       have H' := Aside0.mk H
       clear H
       have p766 : 0 ≤ (x8_1 : Int) := of_decide_eq_true (by assumption)
       have q766 : x8_1 < (l0.length : Int) := of_decide_eq_true (by assumption)
       obtain ⟨ad766, e766, hx766_0⟩ := Kd.at_bool HR0.out x8_1 p766 q766
       (try rw [← Nbq5.out] at hx766_0)
       cases e766
       replace hx766_0 := (HB.out.cell (World.block_lt_of_cell? w _ hx766_0)).trans hx766_0
       replace p766 := eq_true p766
       replace q766 := eq_true q766
       go_wp2
       first | go_roundg k1 | (simp only [add_plain] at *; go_roundg k1)
       case measure => have := HK1.out; omega
       case rel => exact ⟨(x3_1), (wrap64 (x8_1 + 1)), (by rfl), H', ⟨by have := HK1.out; omega⟩, ⟨by (with_reducible repeat (first | apply Kd.R_alloc | apply Kd.R_drewN | apply Kd.R_drew)); exact HO_3.out⟩, ⟨HB.out⟩⟩
     ·rw [if_neg c4] at H
      exact absurd H (by simp)
    ·rw [if_neg c3] at H
     exact absurd H (by simp)
   ·rw [if_neg c2] at H
    have c2b0 : decide (x8_1 < (l0.length : Int)) = false := decide_eq_false c2
    clear c2
    obtain rfl := Option.some.inj H
    go_wp2
    go_ret
    exact ⟨_, by rfl, by (with_reducible repeat (first | apply Kd.R_alloc | apply Kd.R_drewN | apply Kd.R_drew)); exact HO_3.out, HB.out⟩
end Go.Proofs.Ytncoakokdajibaa.Q
