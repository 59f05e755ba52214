import Derived.Test.YtmdeldiocaofkaaFieldPolynomialsWMore
/- A variable that is an array, told as a row of the call's own: its value a slice over the whole block; the slot holds the pointer. -/
namespace Go.Proofs.Ytmdeldiocaofkaa.ArrW
open Go.RowKit Go.Proofs.YtmdeldiocaofkaaW.PrintWords Go.Proofs.YtmdeldiocaofkaaW.PrintLast Go.Proofs.YtmdeldiocaofkaaW.PrintMore

/-- The pointer to what a slice begins with. -/
def ptrOf : Value → Value
  | .slice A _ _ => .pointer A
  | v => v
theorem ptrOf_slice (A : Option Addr) (n c : Nat) : ptrOf (.slice A n c) = .pointer A := rfl
theorem run_alloc_of {P : Program} {w : World} {t : TypeId} {i : TypeInfo} {z : Value} (hi : P.info? t = some i) (hz : i.zero = some z) :
    (Instr.alloc t true (.tuple #[])).run P w = .ok (.pointer (some ⟨w.heap.size, 0, none⟩)) (w.alloc (.cells z.cells t)) := by
  simp [Instr.alloc, zeroValue, typeInfo, newVar, hi, hz, go_sem]
section
variable {P : Program} {ops : Array Oper} {rest : List Oper} {o : Oper} {a : Act} {Q : Exit → Act → World → Prop} {W : World} {α : Type}
theorem R_arr (d : Kd α) {w0 : World} (base e n : Nat) (hgd : o.guard = none) {N : Tmp} (_hd : o.dst = some N) (ho : o.op = .alloc e) {z0 : α} {u : Value} {ok okp : Nat → Prop}
    (hz : (P.info? e).map (fun i => i.zero.map Value.cells) = some (some (Array.replicate n u))) (hsz : d.sz = 1) (hrep : d.M W base okp z0 [u]) (hok : ∀ k, okp k → ok k) (hfresh : ok W.heap.size) (HB : Below base w0 W) (hbase : base ≤ W.heap.size) (hm : n ≤ 9223372036854775807)
    (h : ∀ v1 w1, d.R e w1 base ok v1 (List.replicate n z0) → Below base w0 w1 → W.grownBy w1 none → (∃ b, v1.ownBlock = some b ∧ W.heap.size ≤ b) → wpList P ops Q rest (a.put o.dst (ptrOf v1)) w1) : wpList P ops Q (o :: rest) a W := by
  obtain ⟨i, hi, hzz⟩ := Option.map_eq_some_iff.1 hz
  obtain ⟨z, hz1, hz2⟩ := Option.map_eq_some_iff.1 hzz
  have hrun : (execOp a.eval o).run P W = .ok (.value (.pointer (some ⟨W.heap.size, 0, none⟩))) (W.alloc (.cells (Array.replicate n u) e)) := by
    have := run_alloc_of (P := P) (w := W) hi hz1
    rw [hz2] at this
    unfold execOp
    rw [ho]
    show Sem.run P (Instr.alloc e true (.tuple #[]) >>= fun x => pure (Next.value x)) W = _
    rw [Sem.run_bind, this]
    rfl
  have key : d.R e (W.alloc (.cells (Array.replicate n u) e)) base ok (.slice (some ⟨W.heap.size, 0, none⟩) n n) (List.replicate n z0) := by
    refine ⟨fun k hk => ?_, List.replicate n u, ?_, ?_⟩
    · have : W.heap.size = k := by simpa [Value.ownBlock] using hk
      subst this
      exact hfresh
    · have h2 := World.ownsRow_lit (base := base) (e := e) (size := d.sz) W (Array.replicate n u) n hbase (by simpa [maxLen] using hm) (by rw [hsz]; simp)
      simpa using h2
    · refine ⟨by rw [hsz]; simp, fun j p hj => ?_⟩
      obtain ⟨hjl, hp⟩ := List.getElem?_eq_some_iff.1 hj
      have hp' : z0 = p := by simpa using hp
      subst hp'
      have e1 : ((List.replicate n u).drop (j * d.sz)).take d.sz = [u] := by
        rw [hsz, Nat.mul_one]
        have hjn : j < n := by simpa using hjl
        rw [List.drop_eq_getElem_cons (by simpa using hjn)]
        simp
      rw [e1]
      refine d.M_mono (fun k hk => ⟨hok k hk.1, fun he => ?_⟩) (Kd.M_below (d.M_bound hrep) (below_alloc (Below.refl _ _) _))
      have h3 : k = W.heap.size := by simpa [Value.ownBlock] using he
      have := hk.2.2.1
      omega
  exact Kd.event_run hgd hrun (h (.slice (some ⟨W.heap.size, 0, none⟩) n n) _ key (HB.alloc hbase _) (World.grownBy_alloc W _ none) ⟨W.heap.size, by simp [Value.ownBlock], Nat.le_refl _⟩)
end
end Go.Proofs.Ytmdeldiocaofkaa.ArrW
