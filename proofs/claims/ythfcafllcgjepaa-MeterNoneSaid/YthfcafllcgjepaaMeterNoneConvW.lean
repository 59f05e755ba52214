import Derived.Test.YthfcafllcgjepaaMeterNoneWMore
import Derived.Test.YthfcafllcgjepaaMeterNoneWQPut
import Derived.Lib.ConvBytes
import Derived.Lib.AppendStr
/- '[]byte(s)' of a string: a new row of the call's own (Q: its block is marked behind its cells). -/
namespace Go.Proofs.Ythfcafllcgjepaa.ConvW
set_option linter.unusedVariables false
set_option linter.unusedSimpArgs false
open Go.RowKit Go.Proofs.YthfcafllcgjepaaW.PrintWords Go.Proofs.YthfcafllcgjepaaW.PrintLast Go.Proofs.YthfcafllcgjepaaW.PrintMore

theorem bytesWorld_grown (W : World) (e : TypeId) (s : ByteArray) : W.grownBy (Go.Lib.bytesWorld W e s) none :=
  ⟨rfl, rfl, rfl, by rw [Go.Lib.bytesWorld_size]; omega, fun k hk _ => Go.Lib.bytesWorld_at_old W e s k hk⟩
section
variable {P : Program} {ops : Array Oper} {rest : List Oper} {o : Oper} {a : Act} {Q : Exit → Act → World → Prop} {W : World}
theorem conv_Q {w0 : World} (base e : Nat) {s : ByteArray} {ok : Nat → Prop} (hfresh : ok W.heap.size) (HB : Below base w0 W) (hbase : base ≤ W.heap.size) (hl : s.size ≤ 9223372036854775807) :
    (Kd.int .u8).Q e (Go.Lib.bytesWorld W e s) base ok (.slice (some ⟨W.heap.size, 0, none⟩) s.size (grownCap W s.size 0 e)) (bytesOf s) ∧ Below base w0 (Go.Lib.bytesWorld W e s) := by
  have hge := grownCap_ge W s.size 0 e
  have hle := grownCap_le_maxLen W s.size 0 e (by simp only [maxLen]; exact hl)
  have hsz : (Go.Lib.bytesCells W e s).size = grownCap W s.size 0 e := by
    unfold Go.Lib.bytesCells
    rw [Array.size_append, Array.size_map, Array.size_replicate]
    show s.size + _ = _
    omega
  refine ⟨⟨fun k hk => ?_, (bytesOf s).map (Value.int .u8), ⟨by rw [List.length_map]; exact (Nat.mul_one _).symm, ?_⟩, ?_⟩, HB.grown (bytesWorld_grown W e s) hbase (fun k hk => by cases hk)⟩
  · have : W.heap.size = k := by simpa [Value.ownBlock] using hk
    subst this
    exact hfresh
  · refine .inr ⟨W.heap.size, 0, grownCap W s.size 0 e, Go.Lib.bytesCells W e s, by rw [Nat.zero_mul, bytesOf_length], hbase, ⟨_, Go.Lib.bytesWorld_at_new W e s, .inr (Nat.le_refl _)⟩, by rw [bytesOf_length]; exact hge, by rw [Nat.zero_add]; exact hle, by rw [hsz, Nat.zero_add]; exact (Nat.mul_one _).symm, ?_⟩
    show (List.drop (0 * 1) _).take ((bytesOf s).length * 1) = _
    rw [Nat.zero_mul, List.drop_zero, Nat.mul_one, bytesOf_length]
    unfold Go.Lib.bytesCells bytesOf
    rw [Array.toList_append, List.take_append_of_le_length (by rw [Array.length_toList, Array.size_map]; exact Nat.le_refl _), List.take_of_length_le (by rw [Array.length_toList, Array.size_map]; exact Nat.le_refl _), Array.toList_map, List.map_map]
    rfl
  · refine ⟨by rw [List.length_map]; exact (Nat.mul_one _).symm, fun j p hj => ?_⟩
    show ((((bytesOf s).map (Value.int .u8)).drop (j * 1)).take 1) = [Value.int .u8 p]
    obtain ⟨hjl, hp⟩ := List.getElem?_eq_some_iff.1 hj
    rw [Nat.mul_one, List.drop_eq_getElem_cons (by rw [List.length_map]; exact hjl), List.take_succ_cons, List.take_zero, List.getElem_map, hp]
theorem Q_conv (hgd : o.guard = none) {N : Tmp} (_hd : o.dst = some N) (src dst e : Nat) (x : Operand) (ho : o.op = .convert src dst x) {u : TypeDesc} (hs : P.underlying src = some u) (hd : P.underlying dst = some (.slice e)) (he : P.underlying e = some (.int .u8))
    {w0 : World} (base : Nat) {s : ByteArray} (hx : a.eval x = .string s) {ok : Nat → Prop} (hfresh : ok W.heap.size) (HB : Below base w0 W) (hbase : base ≤ W.heap.size) (hl : s.size ≤ 9223372036854775807)
    (h : ∀ v1 w1, (Kd.int .u8).Q e w1 base ok v1 (bytesOf s) → Below base w0 w1 → W.grownBy w1 none → (∃ b, v1.ownBlock = some b ∧ W.heap.size ≤ b) → wpList P ops Q rest (a.put o.dst v1) w1) : wpList P ops Q (o :: rest) a W := by
  have hq := conv_Q (ok := ok) base e (s := s) hfresh HB hbase hl
  have hrun : (execOp a.eval o).run P W = .ok (.value (.slice (some ⟨W.heap.size, 0, none⟩) s.size (grownCap W s.size 0 e))) (Go.Lib.bytesWorld W e s) := by
    unfold execOp
    rw [ho]
    show Sem.run P (convert src dst (a.eval x) >>= fun x => pure (Next.value x)) W = _
    rw [hx, Sem.run_bind, Go.Lib.run_convert_string_bytes W src dst e s hs hd he]
    rfl
  exact Kd.event_run hgd hrun (h _ _ hq.1 hq.2 (bytesWorld_grown W e s) ⟨W.heap.size, by simp [Value.ownBlock], Nat.le_refl _⟩)
/-- A string's bytes appended, as one step of a region that draws its order. -/
theorem append_str_step {Kc : Act → World → Prop} {Q : Exit → Act → World → Prop} {ops : Array Oper} {w0 W : World} (base : Nat) (hw : Region.wanted o (yielded ops a.tmps) = true) (s x : Operand) (t u e : TypeId)
    (ho : o.op = .call { callee := .builtin .append, args := #[s, x], argTypes := #[t, u] })
    (ht : P.underlying t = some (.slice e)) (hu : P.underlying u = some .string) (hinfo : (P.info? e).map (fun i => (i.zero, i.size, i.bytes)) = some (some (.int .u8 0), 1, 1))
    (v : Value) (xs : List Int) (y : ByteArray) (hs : a.eval s = v) (hx : a.eval x = .string y)
    (HO : W.ownsRow base e 1 v xs.length (nums .u8 xs)) (HB : Below base w0 W) (hbase : base ≤ W.heap.size) (hl : xs.length + y.size ≤ 140737488355328)
    (h : ∀ v1 w1, w1.ownsRow base e 1 v1 (xs ++ bytesOf y).length (nums .u8 (xs ++ bytesOf y)) → Below base w0 w1 → W.grownBy w1 v.ownBlock → Kc (a.put o.dst v1) w1) :
    if Region.wanted o (yielded ops a.tmps) = true then Oper.wp P o a W Kc Q else Kc (a.put o.dst undef) W := by
  obtain ⟨i0, hi, hzz⟩ := Option.map_eq_some_iff.1 hinfo
  simp only [Prod.mk.injEq] at hzz
  obtain ⟨hz0, hz1, hz2⟩ := hzz
  obtain ⟨v1, w1, hr1, hown, hg, _⟩ := Go.Lib.run_append_own_string (P := P) W base t u o.type e i0 ht hu hi hz0 hz1 hz2 v xs.length (nums .u8 xs) HO y (by simp only [maxLen]; omega) hl hbase
  have hl2 : (xs ++ bytesOf y).length = xs.length + y.size := by rw [List.length_append, bytesOf_length]
  have hc : nums .u8 (xs ++ bytesOf y) = nums .u8 xs ++ Go.Lib.strCells y := by
    rw [nums_append]
    congr 1
    simp [nums, bytesOf, Go.Lib.strCells]
  rw [if_pos hw]
  unfold Oper.wp execOp
  simp only [ho, resolve, invoke, builtin, Sem.run_bind, Sem.run_pure, Result.andThen_ok, List.map_toArray, List.map_cons, List.map_nil, hs, hx, hr1]
  exact h v1 w1 (by rw [hl2, hc]; exact hown) (HB.grown hg hbase (own_base HO)) hg
end
/-- A row lies apart from a block of another type, marked or not. -/
theorem R_farC {α : Type} {d : Kd α} {e e' : TypeId} {w : World} {base : Nat} {ok : Nat → Prop} {v : Value} {xs : List α} {g : Nat} {cells : Array Value} (h : d.R e w base ok v xs) (hb : HasC w g cells e') (ht : ∀ q, q ∈ e :: d.E → q ≠ e') (j : Nat) (u : Value) : d.R e (w.setCell ⟨g, j, none⟩ u) base (fun _ => True) v xs :=
  have h1 := Kd.R_apart' (v := .slice (some ⟨g, 0, none⟩) 0 0) h (fun k hk => by cases hk; exact ⟨cells, hb⟩) ht
  Kd.R_mono (Kd.R_far (p := ⟨g, j, none⟩) h1 (fun _ hk e_ => hk.2 (congrArg some e_)) u) (fun _ _ => trivial)
end Go.Proofs.Ythfcafllcgjepaa.ConvW
