import Derived.Test.YthfcafllcgjepaaMeterNoneWMore
import Derived.Laws.IdiomCopy
import Derived.StillTailTactics
/- A variable that is an array, told as a row of the call's own: its value a slice over the whole block; the slot holds the pointer. -/
namespace Go.Proofs.Ythfcafllcgjepaa.ArrW
open Go.RowKit Go.Proofs.YthfcafllcgjepaaW.PrintWords Go.Proofs.YthfcafllcgjepaaW.PrintLast Go.Proofs.YthfcafllcgjepaaW.PrintMore

/-- The pointer to what a slice begins with. -/
def ptrOf : Value → Value
  | .slice A _ _ => .pointer A
  | v => v
theorem ptrOf_slice (A : Option Addr) (n c : Nat) : ptrOf (.slice A n c) = .pointer A := rfl
theorem run_alloc_of {P : Program} {w : World} {t : TypeId} {i : TypeInfo} {z : Value} (hi : P.info? t = some i) (hz : i.zero = some z) :
    (Instr.alloc t true (.tuple #[])).run P w = .ok (.pointer (some ⟨w.heap.size, 0, none⟩)) (w.alloc (.cells z.cells t)) := by
  simp [Instr.alloc, zeroValue, typeInfo, newVar, hi, hz, go_sem]
section
variable {P : Program} {ops : Array Oper} {rest : List Oper} {o : Oper} {a : Act} {Q : Exit → Act → World → Prop} {W : World} {α : Type}
theorem R_arr (d : Kd α) {w0 : World} (base e n : Nat) (hgd : o.guard = none) {N : Tmp} (_hd : o.dst = some N) (ho : o.op = .alloc e) {z0 : α} {u : Value} {ok okp : Nat → Prop}
    (hz : (P.info? e).map (fun i => i.zero.map Value.cells) = some (some (Array.replicate n u))) (hsz : d.sz = 1) (hrep : d.M W base okp z0 [u]) (hok : ∀ k, okp k → ok k) (hfresh : ok W.heap.size) (HB : Below base w0 W) (hbase : base ≤ W.heap.size) (hm : n ≤ 9223372036854775807)
    (h : ∀ v1 w1, d.R e w1 base ok v1 (List.replicate n z0) → Below base w0 w1 → W.grownBy w1 none → (∃ b, v1.ownBlock = some b ∧ W.heap.size ≤ b) → wpList P ops Q rest (a.put o.dst (ptrOf v1)) w1) : wpList P ops Q (o :: rest) a W := by
  obtain ⟨i, hi, hzz⟩ := Option.map_eq_some_iff.1 hz
  obtain ⟨z, hz1, hz2⟩ := Option.map_eq_some_iff.1 hzz
  have hrun : (execOp a.eval o).run P W = .ok (.value (.pointer (some ⟨W.heap.size, 0, none⟩))) (W.alloc (.cells (Array.replicate n u) e)) := by
    have := run_alloc_of (P := P) (w := W) hi hz1
    rw [hz2] at this
    unfold execOp
    rw [ho]
    show Sem.run P (Instr.alloc e true (.tuple #[]) >>= fun x => pure (Next.value x)) W = _
    rw [Sem.run_bind, this]
    rfl
  have key : d.R e (W.alloc (.cells (Array.replicate n u) e)) base ok (.slice (some ⟨W.heap.size, 0, none⟩) n n) (List.replicate n z0) := by
    refine ⟨fun k hk => ?_, List.replicate n u, ?_, ?_⟩
    · have : W.heap.size = k := by simpa [Value.ownBlock] using hk
      subst this
      exact hfresh
    · have h2 := World.ownsRow_lit (base := base) (e := e) (size := d.sz) W (Array.replicate n u) n hbase (by simpa [maxLen] using hm) (by rw [hsz]; simp)
      simpa using h2
    · refine ⟨by rw [hsz]; simp, fun j p hj => ?_⟩
      obtain ⟨hjl, hp⟩ := List.getElem?_eq_some_iff.1 hj
      have hp' : z0 = p := by simpa using hp
      subst hp'
      have e1 : ((List.replicate n u).drop (j * d.sz)).take d.sz = [u] := by
        rw [hsz, Nat.mul_one]
        have hjn : j < n := by simpa using hjl
        rw [List.drop_eq_getElem_cons (by simpa using hjn)]
        simp
      rw [e1]
      refine d.M_mono (fun k hk => ⟨hok k hk.1, fun he => ?_⟩) (Kd.M_below (d.M_bound hrep) (below_alloc (Below.refl _ _) _))
      have h3 : k = W.heap.size := by simpa [Value.ownBlock] using he
      have := hk.2.2.1
      omega
  exact Kd.event_run hgd hrun (h (.slice (some ⟨W.heap.size, 0, none⟩) n n) _ key (HB.alloc hbase _) (World.grownBy_alloc W _ none) ⟨W.heap.size, by simp [Value.ownBlock], Nat.le_refl _⟩)
/-- 'make([]T, n, m)'. -/
theorem R_makec (d : Kd α) {w0 : World} (base e : Nat) (hgd : o.guard = none) {N : Tmp} (_hd : o.dst = some N) (t : TypeId) (x y : Operand) (ho : o.op = .makeSlice t x y) (n m : Int) (hx : a.eval x = .int .i64 n) (hy : a.eval y = .int .i64 m)
    (ht : P.underlying t = some (.slice e)) (z : Value) (bytes : Nat) (hinfo : (P.info? e).map (fun i => (i.zero, i.size, i.bytes)) = some (some z, d.sz, bytes)) (hz : z.cells.size = d.sz) (hs0 : 0 < d.sz) (hb0 : 0 < bytes)
    (z0 : α) {ok okp : Nat → Prop} (hzero : d.M W base okp z0 z.cells.toList) (hok : ∀ k, okp k → ok k) (hfresh : ok W.heap.size) (h0 : 0 ≤ n) (hnm : n ≤ m) (hl : m.toNat * bytes ≤ 281474976710656) (HB : Below base w0 W) (hbase : base ≤ W.heap.size)
    (h : ∀ v1 w1, d.R e w1 base ok v1 (List.replicate n.toNat z0) → Below base w0 w1 → W.grownBy w1 none → (∃ b, v1.ownBlock = some b ∧ W.heap.size ≤ b) → wpList P ops Q rest (a.put o.dst v1) w1) : wpList P ops Q (o :: rest) a W := by
  obtain ⟨k, rfl⟩ := Int.eq_ofNat_of_zero_le h0
  obtain ⟨l, rfl⟩ := Int.eq_ofNat_of_zero_le (Int.le_trans h0 hnm)
  simp only [Int.toNat_natCast] at hl h
  obtain ⟨i0, hi, hzz⟩ := Option.map_eq_some_iff.1 hinfo
  simp only [Prod.mk.injEq] at hzz
  obtain ⟨hz0, hz1, hz2⟩ := hzz
  have hm : l ≤ 281474976710656 := Nat.le_trans (Nat.le_mul_of_pos_right _ hb0) hl
  have hr := run_make (P := P) W t e i0 z ht hi hz0 .i64 .i64 (k : Int) (l : Int) (by omega) (by omega)
    (by
      have h3 : ((i0.bytes * l : Nat) : Int) ≤ 281474976710656 := by rw [hz2, Nat.mul_comm]; omega
      rwa [Int.natCast_mul] at h3) (by omega)
  simp only [Int.toNat_natCast] at hr
  rw [hz1] at hr
  have hrep := Kd.reps_made hz hs0 hzero l
  have key : d.R e (W.alloc (.cells (madeCells z.cells (l * d.sz)) e)) base ok (.slice (some ⟨W.heap.size, 0, none⟩) l l) (List.replicate l z0) := by
    refine ⟨fun k hk => ?_, (madeCells z.cells (l * d.sz)).toList, ?_, ?_⟩
    · have : W.heap.size = k := by simpa [Value.ownBlock] using hk
      subst this
      exact hfresh
    · have h2 := World.ownsRow_lit (base := base) (e := e) (size := d.sz) W (madeCells z.cells (l * d.sz)) l hbase (by simp [maxLen]; omega) (by simp [size_madeCells])
      simpa using h2
    · refine hrep.imp_ (fun p c hp => d.M_mono (fun k hk => ⟨hok k hk.1, fun he => ?_⟩) (Kd.M_below (d.M_bound hp) (below_alloc (Below.refl _ _) _)))
      have h3 : k = W.heap.size := by simpa [Value.ownBlock] using he
      have := hk.2.2.1
      omega
  have key2 := Kd.R_take (m := k) key (by rw [List.length_replicate]; omega)
  rw [List.take_replicate, Nat.min_eq_left (by omega)] at key2
  have hrun : (execOp a.eval o).run P W = .ok (.value (.slice (some ⟨W.heap.size, 0, none⟩) k l)) (W.alloc (.cells (madeCells z.cells (l * d.sz)) e)) := by
    simp [execOp, ho, hx, hy, hr]
  exact Kd.event_run hgd hrun (h _ _ key2 (HB.alloc hbase _) (World.grownBy_alloc W _ none) ⟨W.heap.size, by simp [Value.ownBlock], Nat.le_refl _⟩)
end
/-! copy between two cuts of one array -/
set_option linter.unusedVariables false
set_option linter.unusedSimpArgs false
def setFrom {α : Type} (xs : List α) : Nat → List α → List α
  | _, [] => xs
  | o, v :: r => setFrom (xs.set o v) (o + 1) r
theorem setFrom_length {α : Type} : ∀ (vs : List α) (xs : List α) (o : Nat), (setFrom xs o vs).length = xs.length
  | [], _, _ => rfl
  | v :: r, xs, o => by rw [setFrom, setFrom_length r, List.length_set]
section
variable {P : Program} {ops : Array Oper} {rest : List Oper} {o : Oper} {a : Act} {Q : Exit → Act → World → Prop} {W : World} {α : Type} {enc : α → Value} {h1 : ∀ x, (enc x).oneCell' = true} {e e' base g cap : Nat} {ok : Nat → Prop}
theorem R_setCells : ∀ (vs : List α) (xs : List α) (j : Nat) (W : World), (Kd.scalar enc h1).R e' W base ok (.slice (some ⟨g, 0, none⟩) xs.length cap) xs →
    (Kd.scalar enc h1).R e' (W.setCells g j (vs.map enc)) base ok (.slice (some ⟨g, 0, none⟩) (setFrom xs j vs).length cap) (setFrom xs j vs)
  | [], _, _, _, h => h
  | v :: r, xs, j, W, h => by
    have h2 := Kd.R_putn h (j : Int) v
    rw [Int.toNat_natCast] at h2
    rw [setFrom, List.map_cons, World.setCells]
    refine R_setCells r (xs.set j v) (j + 1) _ ?_
    rw [List.length_set]
    exact h2
theorem grown_setCells : ∀ (vs : List α) (xs : List α) (j : Nat) (W : World), (Kd.scalar enc h1).R e' W base ok (.slice (some ⟨g, 0, none⟩) xs.length cap) xs → W.grownBy (W.setCells g j (vs.map enc)) (some g)
  | [], _, _, W, _ => ⟨rfl, rfl, rfl, Nat.le_refl _, fun _ _ _ => rfl⟩
  | v :: r, xs, j, W, h => by
    have h2 := Kd.R_putg h (j : Int) v
    rw [Int.toNat_natCast] at h2
    rw [List.map_cons, World.setCells]
    refine World.grownBy.trans h2.2 (grown_setCells r (xs.set j v) (j + 1) _ ?_)
    rw [List.length_set]
    exact h2.1
theorem below_setCells {w : World} (hg : w.heap.size ≤ g) : ∀ (vs : List Value) (j : Nat) (W : World), Below w.heap.size w W → Below w.heap.size w (W.setCells g j vs)
  | [], _, _, h => h
  | v :: r, j, W, h => below_setCells hg r (j + 1) _ (below_set h hg)
theorem run_copyin (s x : Operand) (t : TypeId) (ho : o.op = .call { callee := .builtin .copy, args := #[s, x], argTypes := #[t, t] }) (ht : P.underlying t = some (.slice e)) (hi : (P.info? e).map (·.size) = some 1)
    {xs : List α} (d : α) {o1 n1 c1 o2 n2 c2 : Nat} (hs : a.eval s = .slice (some ⟨g, o1, none⟩) n1 c1) (hx : a.eval x = .slice (some ⟨g, o2, none⟩) n2 c2) (HO : (Kd.scalar enc h1).R e' W base ok (.slice (some ⟨g, 0, none⟩) xs.length cap) xs)
    (b1 : o1 + n1 ≤ xs.length) (b2 : o2 + n2 ≤ xs.length) (hn : n2 = n1) : (execOp a.eval o).run P W = .ok (.value (goInt n1)) (W.setCells g o1 (((xs.drop o2).take n1).map enc)) := by
  subst hn
  have hlen : (((xs.drop o2).take n2).map enc).length = n2 := by rw [List.length_map, List.length_take, List.length_drop]; omega
  have hcell : ∀ j, j < xs.length → W.cell? ⟨g, j, none⟩ = some (enc (rdOf d xs (j : Int))) ∧ W.frozen? ⟨g, j, none⟩ = false := fun j hj => by
    have := Kd.R_celln d HO (j : Int) (by omega) (by omega)
    rwa [Int.toNat_natCast] at this
  have hc := run_copy_cells (P := P) W t t o.type e g o1 n2 c1 ⟨g, o2, none⟩ n2 c2 (((xs.drop o2).take n2).map enc) ht hi (by rw [hlen]; exact (Nat.min_self _).symm)
      (fun j v hj => by
        rw [List.getElem?_map, Option.map_eq_some_iff] at hj
        obtain ⟨y, hy, rfl⟩ := hj
        have hjn : j < n2 := by
          have := List.getElem?_eq_some_iff.1 hy
          obtain ⟨hlt, _⟩ := this
          rw [List.length_take] at hlt
          omega
        have hadd : (⟨g, o2, none⟩ : Addr).add j = ⟨g, o2 + j, none⟩ := by unfold Addr.add; split <;> simp_all
        rw [hadd, (hcell (o2 + j) (by omega)).1]
        congr 2
        rw [List.getElem?_take, if_pos hjn, List.getElem?_drop] at hy
        show List.getD _ _ _ = _
        rw [Int.toNat_natCast, List.getD_eq_getElem?_getD, hy]
        rfl)
      (fun j hj => by rw [hlen] at hj; rw [(hcell (o1 + j) (by omega)).1]; rfl) (fun j hj => by rw [hlen] at hj; exact (hcell (o1 + j) (by omega)).2)
      (fun v hv => by obtain ⟨y, _, rfl⟩ := List.mem_map.1 hv; exact h1 y)
  rw [hlen] at hc
  unfold execOp
  rw [ho]
  simp only [resolve, invoke, builtin, Sem.run_bind, Sem.run_pure, List.map_toArray, List.map_cons, List.map_nil, hs, hx, Result.andThen]
  rw [hc]
/-- The same as a step of a region that draws. -/
theorem R_copy_step {K : Act → World → Prop} {N : Option Tmp} (hw : Region.wanted o (yielded ops a.tmps) = true) (hN : o.dst = N) (s x : Operand) (t : TypeId) (ho : o.op = .call { callee := .builtin .copy, args := #[s, x], argTypes := #[t, t] }) (ht : P.underlying t = some (.slice e)) (hi : (P.info? e).map (·.size) = some 1)
    {W0 : World} {xs : List α} (d : α) {o1 n1 c1 o2 n2 c2 : Nat} (hs : a.eval s = .slice (some ⟨g, o1, none⟩) n1 c1) (hx : a.eval x = .slice (some ⟨g, o2, none⟩) n2 c2) (HO : (Kd.scalar enc h1).R e' W0 base ok (.slice (some ⟨g, 0, none⟩) xs.length cap) xs) (hW : W = W0.drew)
    (b1 : o1 + n1 ≤ xs.length) (b2 : o2 + n2 ≤ xs.length) (hn : n2 = n1)
    (h : ∀ w1, (Kd.scalar enc h1).R e' w1 base ok (.slice (some ⟨g, 0, none⟩) xs.length cap) (setFrom xs o1 ((xs.drop o2).take n1)) → W0.grownBy w1 (some g) → (∀ w : World, Below w.heap.size w W0 → w.heap.size ≤ g → Below w.heap.size w w1) → K (a.put N (goInt (n1 : Nat))) w1) :
    if Region.wanted o (yielded ops a.tmps) = true then Oper.wp P o a W K Q else K (a.put N undef) W := by
  subst hW
  have HO' : (Kd.scalar enc h1).R e' W0.drew base ok (.slice (some ⟨g, 0, none⟩) xs.length cap) xs := Kd.R_drew HO
  have h2 := R_setCells ((xs.drop o2).take n1) xs o1 _ HO'
  rw [setFrom_length] at h2
  refine value_ hw hN (run_copyin s x t ho ht hi d hs hx HO' b1 b2 hn) (h _ h2 ?_ ?_)
  · have hg0 : W0.grownBy W0.drew (some g) := ⟨rfl, rfl, rfl, Nat.le_refl _, fun _ _ _ => rfl⟩
    exact World.grownBy.trans hg0 (grown_setCells _ _ _ _ HO')
  · intro w hb hg
    exact below_setCells hg _ _ _ (below_drew1 hb)
theorem run_cut_h (t ea n : Nat) (ht : P.underlying t = some (.array n ea)) (hi : (P.info? ea).map (·.size) = some 1) (g : Nat) (kh : IntKind) (h : Int) (h0 : 0 ≤ h) (h2 : h ≤ n) (W : World) :
    (Instr.sliceAt t (.pointer (some ⟨g, 0, none⟩)) none (some (.int kh h)) none).run P W = .ok (.slice (some ⟨g, 0, none⟩) h.toNat n) W := by
  obtain ⟨i, hi1, hi2⟩ := Option.map_eq_some_iff.1 hi
  have hadd : (⟨g, 0, none⟩ : Addr).add 0 = ⟨g, 0, none⟩ := rfl
  simp [Instr.sliceAt, Instr.sureAddr, run_underlying ht, Instr.sliceBounds, run_sliceBound, sizeOf, typeInfo, *]
theorem run_cut_1h (t ea n : Nat) (ht : P.underlying t = some (.array n ea)) (hi : (P.info? ea).map (·.size) = some 1) (hn : n ≠ 1) (g : Nat) (kl kh : IntKind) (h : Int) (h0 : 1 ≤ h) (h2 : h ≤ n) (W : World) :
    (Instr.sliceAt t (.pointer (some ⟨g, 0, none⟩)) (some (.int kl 1)) (some (.int kh h)) none).run P W = .ok (.slice (some ⟨g, 1, none⟩) (h.toNat - 1) (n - 1)) W := by
  obtain ⟨i, hi1, hi2⟩ := Option.map_eq_some_iff.1 hi
  have eh : (h.toNat : Int) = h := Int.toNat_of_nonneg (by omega)
  have h00 : (0 : Int) ≤ h := by omega
  have hadd : (⟨g, 0, none⟩ : Addr).add 1 = ⟨g, 1, none⟩ := rfl
  simp [Instr.sliceAt, Instr.sureAddr, run_underlying ht, Instr.sliceBounds, run_sliceBound, sizeOf, typeInfo, *]
theorem cut_string {src dst : TypeId} (hs : P.underlying src = some (.slice e)) (he : P.underlying e = some (.int .u8)) (hd : P.underlying dst = some .string) {xs : List Int} {n : Nat}
    (HO : (Kd.int .u8).R e' W base ok (.slice (some ⟨g, 0, none⟩) n cap) xs) (m c : Nat) (hm : m ≤ xs.length) : (convert src dst (.slice (some ⟨g, 0, none⟩) m c)).run P W = .ok (.string (strOfNums (xs.take m))) W := by
  have hC := Kd.C_take (Kd.R_reads' HO).2.2 hm
  have hl : (xs.take m).length = m := by rw [List.length_take]; omega
  have := Kd.C_string (P := P) (A := some ⟨g, 0, none⟩) (c := c) hs he hd hC
  rwa [hl] at this
theorem gate_region {id : Nat} {w : World} (h : (Code.region id ops true).wp P Q a w) : (Code.region id ops true).wp P Q a w := h
end
end Go.Proofs.Ythfcafllcgjepaa.ArrW
