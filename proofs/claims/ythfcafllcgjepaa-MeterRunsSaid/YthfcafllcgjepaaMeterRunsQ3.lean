-- Printed by myprint.py (ours) over the kit's printer, out of the translation.
import Derived.Test.YthfcafllcgjepaaMeterRunsK0
import Derived.Test.YthfcafllcgjepaaMeterRunsF0
import Derived.Test.YthfcafllcgjepaaMeterRunsQ0
import Derived.Test.YthfcafllcgjepaaMeterRunsQ2
namespace Go.Proofs.Ythfcafllcgjepaa.Q
open Go.RowKit Go.Proofs.YthfcafllcgjepaaW.PrintWords Go.Proofs.YthfcafllcgjepaaW.PrintLast Go.Proofs.YthfcafllcgjepaaW.PrintMore
attribute [local go_sem] ArrW.ptrOf_slice unary_neg_float unary_neg_complex run_store_float run_store_complex max2_int min2_int max_two min_two max_three min_three max_four min_four   -- for this text's walks alone
set_option linter.unusedVariables false
set_option linter.unusedSimpArgs false

/-! ### foghornlaw30_MeterRuns: function 5 -/
--WALK
theorem setFrom_get {α : Type} : ∀ (vs xs : List α) (o i : Nat), (ArrW.setFrom xs o vs)[i]? = if o ≤ i ∧ i < o + vs.length ∧ i < xs.length then vs[i - o]? else xs[i]?
 | [], xs, o, i => by
  rw [ArrW.setFrom, if_neg (by simp; omega)]
 | v :: r, xs, o, i => by
  rw [ArrW.setFrom, setFrom_get r, List.length_set, List.length_cons]
  by_cases c : i = o
  ·subst c
   rw [if_neg (by omega)]
   by_cases c2 : i < xs.length
   ·rw [if_pos (by omega), List.getElem?_set_self c2, Nat.sub_self]
    rfl
   ·rw [if_neg (by omega), List.getElem?_eq_none (by rw [List.length_set]; omega), List.getElem?_eq_none (by omega)]
  ·rw [List.getElem?_set_ne (by omega)]
   by_cases c2 : o + 1 ≤ i ∧ i < o + 1 + r.length ∧ i < xs.length
   ·rw [if_pos c2, if_pos (by omega), show i - o = (i - (o + 1)) + 1 by omega, List.getElem?_cons_succ]
   ·rw [if_neg c2, if_neg (by omega)]
theorem setFrom_onto {α : Type} (xs ys : List α) : ArrW.setFrom xs 0 (ys.take (min ys.length xs.length)) = copyOnto xs ys := by
 apply List.ext_getElem?
 intro i
 rw [setFrom_get, List.length_take]
 unfold copyOnto
 by_cases c : i < min ys.length xs.length
 ·rw [if_pos (by omega), Nat.sub_zero, List.getElem?_take, if_pos c, List.getElem?_append_left (by rw [List.length_take]; omega), List.getElem?_take, if_pos (by omega)]
 ·rw [if_neg (by omega), List.getElem?_append_right (by rw [List.length_take]; omega), List.length_take, List.getElem?_drop]
  rcases Nat.le_total ys.length xs.length with h | h
  ·congr 1; omega
  ·rw [List.getElem?_eq_none (by omega), List.getElem?_eq_none (by omega)]
theorem copyf_run {P : Program} {α : Type} {enc : α → Value} {h1 : ∀ x, (enc x).oneCell' = true} {W : World} {e base : Nat} {ok : Nat → Prop} {v : Value} {xs ys : List α} {A : Option Addr} {m c : Nat} (d : α) (t : TypeId) (ty : TypeId) (ht : P.underlying t = some (.slice e)) (hi : (P.info? e).map (·.size) = some 1)
  (HO : (Kd.scalar enc h1).R e W base ok v xs) (HR : (Kd.scalar enc h1).C W A m ys) :
  ∃ W1, (Builtin.copy_ #[t, t] ty #[v, .slice A m c]).run P W = .ok (goInt ((min ys.length xs.length : Nat) : Int)) W1 ∧ (Kd.scalar enc h1).R e W1 base ok v (copyOnto xs ys) ∧ W.grownBy W1 v.ownBlock ∧ ∀ w : World, Below w.heap.size w W → w.heap.size ≤ base → Below w.heap.size w W1 := by
 have hm : ys.length = m := (Kd.reads_of_C (d := d) HR).1
 subst hm
 by_cases h0 : min ys.length xs.length = 0
 ·refine ⟨W, ?_, ?_, ⟨rfl, rfl, rfl, Nat.le_refl _, fun _ _ _ => rfl⟩, fun _ h _ => h⟩
  ·obtain ⟨B, k, rfl⟩ := Kd.R_slice HO
   obtain ⟨i, hi1, hi2⟩ := Option.map_eq_some_iff.1 hi
   rw [h0]
   have h0' : Nat.min ys.length xs.length = 0 := h0
   have hl : (Builtin.lenOf (.slice A ys.length c)).run P W = .ok ys.length W := by simp [Builtin.lenOf]
   have hf : (Builtin.firstCells i.size 0 (.slice A ys.length c)).run P W = .ok #[] W := by
    cases A with
    | none => simp [Builtin.firstCells]
    | some a => simp [Builtin.firstCells, loadCells, loadCellsFrom]
   cases B with
   | none => simp [Builtin.copy_, run_underlying ht, sizeOf, typeInfo, hi1, hl, h0', hf, Result.andThen]
   | some b => simp [Builtin.copy_, run_underlying ht, sizeOf, typeInfo, hi1, hl, h0', hf, storeCells, Result.andThen]
  ·have e : copyOnto xs ys = xs := by
    unfold copyOnto
    rcases Nat.le_total ys.length xs.length with h | h
    ·have : ys = [] := List.length_eq_zero_iff.1 (by omega)
     subst this
     simp
    ·have : xs = [] := List.length_eq_zero_iff.1 (by omega)
     subst this
     simp
   rw [e]
   exact HO
 ·obtain ⟨g, cap, rfl, hg, hlt, cells, hcells⟩ := Kd.R_form HO (by omega)
  obtain ⟨ad, rfl, hsrc⟩ := (Kd.reads_of_C (d := d) HR).2.2 (by omega)
  obtain ⟨n, hn⟩ : ∃ n, n = min ys.length xs.length := ⟨_, rfl⟩
  have hlen : ((ys.take n).map enc).length = n := by rw [List.length_map, List.length_take]; omega
  have hcell : ∀ j, j < xs.length → W.cell? ⟨g, j, none⟩ = some (enc (rdOf d xs (j : Int))) ∧ W.frozen? ⟨g, j, none⟩ = false := fun j hj => by
   have := Kd.R_celln d HO (j : Int) (by omega) (by omega)
   rwa [Int.toNat_natCast] at this
  have hc := run_copy_cells (P := P) W t t ty e g 0 xs.length cap ad ys.length c ((ys.take n).map enc) ht hi (by rw [hlen, hn])
   (fun j u hj => by
    rw [List.getElem?_map, Option.map_eq_some_iff] at hj
    obtain ⟨y, hy, rfl⟩ := hj
    have hjn : j < n := by
     obtain ⟨hlt, _⟩ := List.getElem?_eq_some_iff.1 hy
     rw [List.length_take] at hlt
     omega
    rw [hsrc j (by omega)]
    congr 2
    rw [List.getElem?_take, if_pos hjn] at hy
    rw [List.getD_eq_getElem?_getD, hy]
    rfl)
   (fun j hj => by rw [hlen] at hj; rw [Nat.zero_add, (hcell j (by omega)).1]; rfl) (fun j hj => by rw [hlen] at hj; rw [Nat.zero_add]; exact (hcell j (by omega)).2)
   (fun v hv => by obtain ⟨y, _, rfl⟩ := List.mem_map.1 hv; exact h1 y)
  rw [hlen, hn] at hc
  have h2 := ArrW.R_setCells (ys.take n) xs 0 _ HO
  rw [ArrW.setFrom_length, hn, setFrom_onto] at h2
  refine ⟨_, hc, ?_, ArrW.grown_setCells _ _ _ _ HO, fun w hb hw => ArrW.below_setCells (Nat.le_trans hw hg) _ _ _ hb⟩
  exact h2
theorem R_copyf {P : Program} {ops : Array Oper} {rest : List Oper} {o : Oper} {a : Act} {Q : Exit → Act → World → Prop} {α : Type} {enc : α → Value} {h1 : ∀ x, (enc x).oneCell' = true} {W w0 : World} (base : Nat) (hgd : o.guard = none) (s x : Operand) (t e : TypeId) (d : α)
  (ho : o.op = .call { callee := .builtin .copy, args := #[s, x], argTypes := #[t, t] }) (ht : P.underlying t = some (.slice e)) (hi : (P.info? e).map (·.size) = some 1) (v : Value) (xs ys : List α) (A : Option Addr) (m c : Nat) (ok : Nat → Prop) (hs : a.eval s = v) (hx : a.eval x = .slice A m c)
  (HO : (Kd.scalar enc h1).R e W base ok v xs) (HR : (Kd.scalar enc h1).C W A m ys) (HB : Below w0.heap.size w0 W) (_hbase : w0.heap.size ≤ W.heap.size) (hb0 : base = w0.heap.size)
  (h : ∀ w1, (Kd.scalar enc h1).R e w1 base ok v (copyOnto xs ys) → Below w0.heap.size w0 w1 → W.grownBy w1 v.ownBlock → wpList P ops Q rest (a.put o.dst (.int .i64 ((min ys.length xs.length : Nat) : Int))) w1) : wpList P ops Q (o :: rest) a W := by
 obtain ⟨W1, r1, r2, r3, r4⟩ := copyf_run (P := P) (c := c) d t o.type ht hi HO HR
 refine Kd.event_run hgd ?_ (h W1 r2 (r4 w0 HB (hb0 ▸ Nat.le_refl _)) r3)
 unfold execOp
 rw [ho]
 simp only [resolve, invoke, builtin, Sem.run_bind, Sem.run_pure, List.map_toArray, List.map_cons, List.map_nil, hs, hx, Result.andThen]
 rw [r1]
 rfl
set_option maxHeartbeats 8000000 in
set_option maxRecDepth 100000 in
theorem foghornlaw30_MeterRuns.calls (k : Nat) (A0 : Option Addr) (c0 : Nat) (l0 : List Bool) (A1 : Option Addr) (c1 : Nat) (l1 : List Bool) (a2 : Int) (r : Bool) (w : World) (hr0 : Kd.C Kd.bool w A0 l0.length l0) (hc0 : l0.length ≤ c0) (hr1 : Kd.C Kd.bool w A1 l1.length l1) (hc1 : l1.length ≤ c1) (h : foghornlaw30_MeterRuns.f k l0 l1 a2 = some r) (hq_ : r = true) :
  Calls Try.prog 5 #[.slice A0 l0.length c0, .slice A1 l1.length c1, .int .u8 a2] w fun e w' => e = .returned (.bool r) ∧ Below w.heap.size w w' := by
 have HQ_ := Aside0.mk hq_
 clear hq_
 have hu49 := Try.underlying49
 have HR0 := Aside0.mk hr0
 have HC0 := Aside0.mk hc0
 clear hr0 hc0
 have HR1 := Aside0.mk hr1
 have HC1 := Aside0.mk hc1
 clear hr1 hc1
 have HB := Aside0.mk (Below.refl w.heap.size w)
 have H : (if 0 ≤ (mn (l0.length : Int) 300) then (if (mn (l0.length : Int) 300) ≤ (l0.length : Int) then (if 0 ≤ ((l0.take ((mn (l0.length : Int) 300) : Int).toNat).length : Int) then (if (((l0.take ((mn (l0.length : Int) 300) : Int).toNat).length : Int) : Int).toNat ≤ 281474976710656 then ((some (copyOnto (List.replicate (((l0.take ((mn (l0.length : Int) 300) : Int).toNat).length : Int) : Int).toNat false) l1 : List Bool)).bind fun y407 => ((meter_Errors.f k (l0.take ((mn (l0.length : Int) 300) : Int).toNat) y407).bind fun bt410 => ((meter_Errors.f k y407 (l0.take ((mn (l0.length : Int) 300) : Int).toNat)).bind fun bt413 => ((meter_Runs.f k (l0.take ((mn (l0.length : Int) 300) : Int).toNat) y407 (Int.tmod (wrap64 (a2)) 40)).bind fun bt416 => ((meter_Runs.f k (l0.take ((mn (l0.length : Int) 300) : Int).toNat) y407 (wrap64 ((Int.tmod (wrap64 (a2)) 40) + 1))).bind fun bt420 => (if bt410.2.2 = 0 then (if bt413.2.2 = 0 then (if bt416.2 = 0 then (if bt420.2 = 0 then (if bt410.1 = bt413.1 then (if bt410.2.1 = bt413.2.1 then (if (bt420.1.length : Int) > (bt416.1.length : Int) then (foghornlaw30_MeterRuns.j0 k (l0.take ((mn (l0.length : Int) 300) : Int).toNat) y407 (Int.tmod (wrap64 (a2)) 40) bt410.1 bt416.1 true) else (if ((bt410.1 == 0) != ((bt416.1.length : Int) == 0)) = true then (foghornlaw30_MeterRuns.j0 k (l0.take ((mn (l0.length : Int) 300) : Int).toNat) y407 (Int.tmod (wrap64 (a2)) 40) bt410.1 bt416.1 true) else (if (bt416.1.length : Int) > 0 then (if 0 < (bt416.1.length : Int) then (foghornlaw30_MeterRuns.j0 k (l0.take ((mn (l0.length : Int) 300) : Int).toNat) y407 (Int.tmod (wrap64 (a2)) 40) bt410.1 bt416.1 (((rd_T49 bt416.1 0).f0) != bt410.2.1)) else (none)) else (foghornlaw30_MeterRuns.j0 k (l0.take ((mn (l0.length : Int) 300) : Int).toNat) y407 (Int.tmod (wrap64 (a2)) 40) bt410.1 bt416.1 false)))) else (foghornlaw30_MeterRuns.j0 k (l0.take ((mn (l0.length : Int) 300) : Int).toNat) y407 (Int.tmod (wrap64 (a2)) 40) bt410.1 bt416.1 true)) else (foghornlaw30_MeterRuns.j0 k (l0.take ((mn (l0.length : Int) 300) : Int).toNat) y407 (Int.tmod (wrap64 (a2)) 40) bt410.1 bt416.1 true)) else (foghornlaw30_MeterRuns.j0 k (l0.take ((mn (l0.length : Int) 300) : Int).toNat) y407 (Int.tmod (wrap64 (a2)) 40) bt410.1 bt416.1 true)) else (foghornlaw30_MeterRuns.j0 k (l0.take ((mn (l0.length : Int) 300) : Int).toNat) y407 (Int.tmod (wrap64 (a2)) 40) bt410.1 bt416.1 true)) else (foghornlaw30_MeterRuns.j0 k (l0.take ((mn (l0.length : Int) 300) : Int).toNat) y407 (Int.tmod (wrap64 (a2)) 40) bt410.1 bt416.1 true)) else (foghornlaw30_MeterRuns.j0 k (l0.take ((mn (l0.length : Int) 300) : Int).toNat) y407 (Int.tmod (wrap64 (a2)) 40) bt410.1 bt416.1 true))))))) else (none)) else (none)) else (none)) else (none)) = some r := h
 clear h
 obtain ⟨ji4, hji4⟩ : ∃ j_ : Int, (mn (l0.length : Int) 300) = j_ := ⟨_, rfl⟩
 replace H : (if 0 ≤ (ji4) then (if (ji4) ≤ (l0.length : Int) then (if 0 ≤ ((l0.take ((ji4) : Int).toNat).length : Int) then (if (((l0.take ((ji4) : Int).toNat).length : Int) : Int).toNat ≤ 281474976710656 then ((some (copyOnto (List.replicate (((l0.take ((ji4) : Int).toNat).length : Int) : Int).toNat false) l1 : List Bool)).bind fun y407 => ((meter_Errors.f k (l0.take ((ji4) : Int).toNat) y407).bind fun bt410 => ((meter_Errors.f k y407 (l0.take ((ji4) : Int).toNat)).bind fun bt413 => ((meter_Runs.f k (l0.take ((ji4) : Int).toNat) y407 (Int.tmod (wrap64 (a2)) 40)).bind fun bt416 => ((meter_Runs.f k (l0.take ((ji4) : Int).toNat) y407 (wrap64 ((Int.tmod (wrap64 (a2)) 40) + 1))).bind fun bt420 => (if bt410.2.2 = 0 then (if bt413.2.2 = 0 then (if bt416.2 = 0 then (if bt420.2 = 0 then (if bt410.1 = bt413.1 then (if bt410.2.1 = bt413.2.1 then (if (bt420.1.length : Int) > (bt416.1.length : Int) then (foghornlaw30_MeterRuns.j0 k (l0.take ((ji4) : Int).toNat) y407 (Int.tmod (wrap64 (a2)) 40) bt410.1 bt416.1 true) else (if ((bt410.1 == 0) != ((bt416.1.length : Int) == 0)) = true then (foghornlaw30_MeterRuns.j0 k (l0.take ((ji4) : Int).toNat) y407 (Int.tmod (wrap64 (a2)) 40) bt410.1 bt416.1 true) else (if (bt416.1.length : Int) > 0 then (if 0 < (bt416.1.length : Int) then (foghornlaw30_MeterRuns.j0 k (l0.take ((ji4) : Int).toNat) y407 (Int.tmod (wrap64 (a2)) 40) bt410.1 bt416.1 (((rd_T49 bt416.1 0).f0) != bt410.2.1)) else (none)) else (foghornlaw30_MeterRuns.j0 k (l0.take ((ji4) : Int).toNat) y407 (Int.tmod (wrap64 (a2)) 40) bt410.1 bt416.1 false)))) else (foghornlaw30_MeterRuns.j0 k (l0.take ((ji4) : Int).toNat) y407 (Int.tmod (wrap64 (a2)) 40) bt410.1 bt416.1 true)) else (foghornlaw30_MeterRuns.j0 k (l0.take ((ji4) : Int).toNat) y407 (Int.tmod (wrap64 (a2)) 40) bt410.1 bt416.1 true)) else (foghornlaw30_MeterRuns.j0 k (l0.take ((ji4) : Int).toNat) y407 (Int.tmod (wrap64 (a2)) 40) bt410.1 bt416.1 true)) else (foghornlaw30_MeterRuns.j0 k (l0.take ((ji4) : Int).toNat) y407 (Int.tmod (wrap64 (a2)) 40) bt410.1 bt416.1 true)) else (foghornlaw30_MeterRuns.j0 k (l0.take ((ji4) : Int).toNat) y407 (Int.tmod (wrap64 (a2)) 40) bt410.1 bt416.1 true)) else (foghornlaw30_MeterRuns.j0 k (l0.take ((ji4) : Int).toNat) y407 (Int.tmod (wrap64 (a2)) 40) bt410.1 bt416.1 true))))))) else (none)) else (none)) else (none)) else (none)) = some r := by first | (rw [hji4] at H; exact H) | (simp only [hji4] at H ⊢; exact H)
 (try (have hji4h : ji4 ≤ 300 := by (rw [← hji4]; unfold mn; (repeat' split) <;> omega)))
 (try (have hji4g : ji4 ≤ 64 := by omega))
 (try (have hji4l : 0 ≤ ji4 := by (rw [← hji4]; unfold mn; (repeat' split) <;> omega)))
 (try (have hji4m : 0 ≤ ji4 := by omega))
 have hji4_ : (if 300 < (l0.length : Int) then 300 else (l0.length : Int)) = ji4 := hji4
 by_cases c5 : 0 ≤ (ji4)
 ·rw [if_pos c5] at H
  have c5b0 := eq_true c5
  have c5b1 : decide (0 ≤ (ji4)) = true := decide_eq_true c5
  clear c5
  by_cases c6 : (ji4) ≤ (l0.length : Int)
  ·rw [if_pos c6] at H
   have c6b0 := eq_true c6
   have c6b1 : decide ((ji4) ≤ (l0.length : Int)) = true := decide_eq_true c6
   clear c6
   by_cases c7 : 0 ≤ ((l0.take ((ji4) : Int).toNat).length : Int)
   ·rw [if_pos c7] at H
    have c7b0 := eq_true c7
    have c7b1 : decide (0 ≤ ((l0.take ((ji4) : Int).toNat).length : Int)) = true := decide_eq_true c7
    clear c7
    by_cases c8 : (((l0.take ((ji4) : Int).toNat).length : Int) : Int).toNat ≤ 281474976710656
    ·rw [if_pos c8] at H
     have c8b0 := eq_true c8
     have c8b1 : decide ((((l0.take ((ji4) : Int).toNat).length : Int) : Int).toNat ≤ 281474976710656) = true := decide_eq_true c8
     clear c8
     obtain ⟨y404, hy404⟩ : ∃ y_ : List Bool, y_ = (List.replicate (((l0.take ((ji4) : Int).toNat).length : Int) : Int).toNat false) := ⟨_, rfl⟩
     replace H : ((some (copyOnto y404 l1 : List Bool)).bind fun y407 => ((meter_Errors.f k (l0.take ((ji4) : Int).toNat) y407).bind fun bt410 => ((meter_Errors.f k y407 (l0.take ((ji4) : Int).toNat)).bind fun bt413 => ((meter_Runs.f k (l0.take ((ji4) : Int).toNat) y407 (Int.tmod (wrap64 (a2)) 40)).bind fun bt416 => ((meter_Runs.f k (l0.take ((ji4) : Int).toNat) y407 (wrap64 ((Int.tmod (wrap64 (a2)) 40) + 1))).bind fun bt420 => (if bt410.2.2 = 0 then (if bt413.2.2 = 0 then (if bt416.2 = 0 then (if bt420.2 = 0 then (if bt410.1 = bt413.1 then (if bt410.2.1 = bt413.2.1 then (if (bt420.1.length : Int) > (bt416.1.length : Int) then (foghornlaw30_MeterRuns.j0 k (l0.take ((ji4) : Int).toNat) y407 (Int.tmod (wrap64 (a2)) 40) bt410.1 bt416.1 true) else (if ((bt410.1 == 0) != ((bt416.1.length : Int) == 0)) = true then (foghornlaw30_MeterRuns.j0 k (l0.take ((ji4) : Int).toNat) y407 (Int.tmod (wrap64 (a2)) 40) bt410.1 bt416.1 true) else (if (bt416.1.length : Int) > 0 then (if 0 < (bt416.1.length : Int) then (foghornlaw30_MeterRuns.j0 k (l0.take ((ji4) : Int).toNat) y407 (Int.tmod (wrap64 (a2)) 40) bt410.1 bt416.1 (((rd_T49 bt416.1 0).f0) != bt410.2.1)) else (none)) else (foghornlaw30_MeterRuns.j0 k (l0.take ((ji4) : Int).toNat) y407 (Int.tmod (wrap64 (a2)) 40) bt410.1 bt416.1 false)))) else (foghornlaw30_MeterRuns.j0 k (l0.take ((ji4) : Int).toNat) y407 (Int.tmod (wrap64 (a2)) 40) bt410.1 bt416.1 true)) else (foghornlaw30_MeterRuns.j0 k (l0.take ((ji4) : Int).toNat) y407 (Int.tmod (wrap64 (a2)) 40) bt410.1 bt416.1 true)) else (foghornlaw30_MeterRuns.j0 k (l0.take ((ji4) : Int).toNat) y407 (Int.tmod (wrap64 (a2)) 40) bt410.1 bt416.1 true)) else (foghornlaw30_MeterRuns.j0 k (l0.take ((ji4) : Int).toNat) y407 (Int.tmod (wrap64 (a2)) 40) bt410.1 bt416.1 true)) else (foghornlaw30_MeterRuns.j0 k (l0.take ((ji4) : Int).toNat) y407 (Int.tmod (wrap64 (a2)) 40) bt410.1 bt416.1 true)) else (foghornlaw30_MeterRuns.j0 k (l0.take ((ji4) : Int).toNat) y407 (Int.tmod (wrap64 (a2)) 40) bt410.1 bt416.1 true))))))) = some r := by first | (rw [hy404]; with_reducible exact H) | (have H2_ := (Option.bind_some _ _).symm.trans H; rw [hy404]; with_reducible exact H2_) | (have H2_ := (Option.bind_some _ _).symm.trans H; with_reducible exact H2_) | with_reducible exact H | (rw [hy404]; exact H) | exact H
     have Ny404 := Aside0.mk hy404
     clear hy404
     obtain ⟨y407, hy407⟩ : ∃ y_ : List Bool, y_ = (copyOnto y404 l1) := ⟨_, rfl⟩
     replace H : ((meter_Errors.f k (l0.take ((ji4) : Int).toNat) y407).bind fun bt410 => ((meter_Errors.f k y407 (l0.take ((ji4) : Int).toNat)).bind fun bt413 => ((meter_Runs.f k (l0.take ((ji4) : Int).toNat) y407 (Int.tmod (wrap64 (a2)) 40)).bind fun bt416 => ((meter_Runs.f k (l0.take ((ji4) : Int).toNat) y407 (wrap64 ((Int.tmod (wrap64 (a2)) 40) + 1))).bind fun bt420 => (if bt410.2.2 = 0 then (if bt413.2.2 = 0 then (if bt416.2 = 0 then (if bt420.2 = 0 then (if bt410.1 = bt413.1 then (if bt410.2.1 = bt413.2.1 then (if (bt420.1.length : Int) > (bt416.1.length : Int) then (foghornlaw30_MeterRuns.j0 k (l0.take ((ji4) : Int).toNat) y407 (Int.tmod (wrap64 (a2)) 40) bt410.1 bt416.1 true) else (if ((bt410.1 == 0) != ((bt416.1.length : Int) == 0)) = true then (foghornlaw30_MeterRuns.j0 k (l0.take ((ji4) : Int).toNat) y407 (Int.tmod (wrap64 (a2)) 40) bt410.1 bt416.1 true) else (if (bt416.1.length : Int) > 0 then (if 0 < (bt416.1.length : Int) then (foghornlaw30_MeterRuns.j0 k (l0.take ((ji4) : Int).toNat) y407 (Int.tmod (wrap64 (a2)) 40) bt410.1 bt416.1 (((rd_T49 bt416.1 0).f0) != bt410.2.1)) else (none)) else (foghornlaw30_MeterRuns.j0 k (l0.take ((ji4) : Int).toNat) y407 (Int.tmod (wrap64 (a2)) 40) bt410.1 bt416.1 false)))) else (foghornlaw30_MeterRuns.j0 k (l0.take ((ji4) : Int).toNat) y407 (Int.tmod (wrap64 (a2)) 40) bt410.1 bt416.1 true)) else (foghornlaw30_MeterRuns.j0 k (l0.take ((ji4) : Int).toNat) y407 (Int.tmod (wrap64 (a2)) 40) bt410.1 bt416.1 true)) else (foghornlaw30_MeterRuns.j0 k (l0.take ((ji4) : Int).toNat) y407 (Int.tmod (wrap64 (a2)) 40) bt410.1 bt416.1 true)) else (foghornlaw30_MeterRuns.j0 k (l0.take ((ji4) : Int).toNat) y407 (Int.tmod (wrap64 (a2)) 40) bt410.1 bt416.1 true)) else (foghornlaw30_MeterRuns.j0 k (l0.take ((ji4) : Int).toNat) y407 (Int.tmod (wrap64 (a2)) 40) bt410.1 bt416.1 true)) else (foghornlaw30_MeterRuns.j0 k (l0.take ((ji4) : Int).toNat) y407 (Int.tmod (wrap64 (a2)) 40) bt410.1 bt416.1 true)))))) = some r := by first | (rw [hy407]; with_reducible exact H) | (have H2_ := (Option.bind_some _ _).symm.trans H; rw [hy407]; with_reducible exact H2_) | (have H2_ := (Option.bind_some _ _).symm.trans H; with_reducible exact H2_) | with_reducible exact H | (rw [hy407]; exact H) | exact H
     have Ny407 := Aside0.mk hy407
     clear hy407
     replace H := Option.bind_eq_some_iff.mp H
     obtain ⟨⟨t410, t411, t412⟩, A90, H⟩ := H
     replace H : ((meter_Errors.f k y407 (l0.take ((ji4) : Int).toNat)).bind fun bt413 => ((meter_Runs.f k (l0.take ((ji4) : Int).toNat) y407 (Int.tmod (wrap64 (a2)) 40)).bind fun bt416 => ((meter_Runs.f k (l0.take ((ji4) : Int).toNat) y407 (wrap64 ((Int.tmod (wrap64 (a2)) 40) + 1))).bind fun bt420 => (if t412 = 0 then (if bt413.2.2 = 0 then (if bt416.2 = 0 then (if bt420.2 = 0 then (if t410 = bt413.1 then (if t411 = bt413.2.1 then (if (bt420.1.length : Int) > (bt416.1.length : Int) then (foghornlaw30_MeterRuns.j0 k (l0.take ((ji4) : Int).toNat) y407 (Int.tmod (wrap64 (a2)) 40) t410 bt416.1 true) else (if ((t410 == 0) != ((bt416.1.length : Int) == 0)) = true then (foghornlaw30_MeterRuns.j0 k (l0.take ((ji4) : Int).toNat) y407 (Int.tmod (wrap64 (a2)) 40) t410 bt416.1 true) else (if (bt416.1.length : Int) > 0 then (if 0 < (bt416.1.length : Int) then (foghornlaw30_MeterRuns.j0 k (l0.take ((ji4) : Int).toNat) y407 (Int.tmod (wrap64 (a2)) 40) t410 bt416.1 (((rd_T49 bt416.1 0).f0) != t411)) else (none)) else (foghornlaw30_MeterRuns.j0 k (l0.take ((ji4) : Int).toNat) y407 (Int.tmod (wrap64 (a2)) 40) t410 bt416.1 false)))) else (foghornlaw30_MeterRuns.j0 k (l0.take ((ji4) : Int).toNat) y407 (Int.tmod (wrap64 (a2)) 40) t410 bt416.1 true)) else (foghornlaw30_MeterRuns.j0 k (l0.take ((ji4) : Int).toNat) y407 (Int.tmod (wrap64 (a2)) 40) t410 bt416.1 true)) else (foghornlaw30_MeterRuns.j0 k (l0.take ((ji4) : Int).toNat) y407 (Int.tmod (wrap64 (a2)) 40) t410 bt416.1 true)) else (foghornlaw30_MeterRuns.j0 k (l0.take ((ji4) : Int).toNat) y407 (Int.tmod (wrap64 (a2)) 40) t410 bt416.1 true)) else (foghornlaw30_MeterRuns.j0 k (l0.take ((ji4) : Int).toNat) y407 (Int.tmod (wrap64 (a2)) 40) t410 bt416.1 true)) else (foghornlaw30_MeterRuns.j0 k (l0.take ((ji4) : Int).toNat) y407 (Int.tmod (wrap64 (a2)) 40) t410 bt416.1 true))))) = some r := H
     have A9 := Aside0.mk A90
     clear A90
     replace H := Option.bind_eq_some_iff.mp H
     obtain ⟨⟨t413, t414, t415⟩, A100, H⟩ := H
     replace H : ((meter_Runs.f k (l0.take ((ji4) : Int).toNat) y407 (Int.tmod (wrap64 (a2)) 40)).bind fun bt416 => ((meter_Runs.f k (l0.take ((ji4) : Int).toNat) y407 (wrap64 ((Int.tmod (wrap64 (a2)) 40) + 1))).bind fun bt420 => (if t412 = 0 then (if t415 = 0 then (if bt416.2 = 0 then (if bt420.2 = 0 then (if t410 = t413 then (if t411 = t414 then (if (bt420.1.length : Int) > (bt416.1.length : Int) then (foghornlaw30_MeterRuns.j0 k (l0.take ((ji4) : Int).toNat) y407 (Int.tmod (wrap64 (a2)) 40) t410 bt416.1 true) else (if ((t410 == 0) != ((bt416.1.length : Int) == 0)) = true then (foghornlaw30_MeterRuns.j0 k (l0.take ((ji4) : Int).toNat) y407 (Int.tmod (wrap64 (a2)) 40) t410 bt416.1 true) else (if (bt416.1.length : Int) > 0 then (if 0 < (bt416.1.length : Int) then (foghornlaw30_MeterRuns.j0 k (l0.take ((ji4) : Int).toNat) y407 (Int.tmod (wrap64 (a2)) 40) t410 bt416.1 (((rd_T49 bt416.1 0).f0) != t411)) else (none)) else (foghornlaw30_MeterRuns.j0 k (l0.take ((ji4) : Int).toNat) y407 (Int.tmod (wrap64 (a2)) 40) t410 bt416.1 false)))) else (foghornlaw30_MeterRuns.j0 k (l0.take ((ji4) : Int).toNat) y407 (Int.tmod (wrap64 (a2)) 40) t410 bt416.1 true)) else (foghornlaw30_MeterRuns.j0 k (l0.take ((ji4) : Int).toNat) y407 (Int.tmod (wrap64 (a2)) 40) t410 bt416.1 true)) else (foghornlaw30_MeterRuns.j0 k (l0.take ((ji4) : Int).toNat) y407 (Int.tmod (wrap64 (a2)) 40) t410 bt416.1 true)) else (foghornlaw30_MeterRuns.j0 k (l0.take ((ji4) : Int).toNat) y407 (Int.tmod (wrap64 (a2)) 40) t410 bt416.1 true)) else (foghornlaw30_MeterRuns.j0 k (l0.take ((ji4) : Int).toNat) y407 (Int.tmod (wrap64 (a2)) 40) t410 bt416.1 true)) else (foghornlaw30_MeterRuns.j0 k (l0.take ((ji4) : Int).toNat) y407 (Int.tmod (wrap64 (a2)) 40) t410 bt416.1 true)))) = some r := H
     have A10 := Aside0.mk A100
     clear A100
     replace H := Option.bind_eq_some_iff.mp H
     obtain ⟨⟨t416, t417⟩, A110, H⟩ := H
     replace H : ((meter_Runs.f k (l0.take ((ji4) : Int).toNat) y407 (wrap64 ((Int.tmod (wrap64 (a2)) 40) + 1))).bind fun bt420 => (if t412 = 0 then (if t415 = 0 then (if t417 = 0 then (if bt420.2 = 0 then (if t410 = t413 then (if t411 = t414 then (if (bt420.1.length : Int) > (t416.length : Int) then (foghornlaw30_MeterRuns.j0 k (l0.take ((ji4) : Int).toNat) y407 (Int.tmod (wrap64 (a2)) 40) t410 t416 true) else (if ((t410 == 0) != ((t416.length : Int) == 0)) = true then (foghornlaw30_MeterRuns.j0 k (l0.take ((ji4) : Int).toNat) y407 (Int.tmod (wrap64 (a2)) 40) t410 t416 true) else (if (t416.length : Int) > 0 then (if 0 < (t416.length : Int) then (foghornlaw30_MeterRuns.j0 k (l0.take ((ji4) : Int).toNat) y407 (Int.tmod (wrap64 (a2)) 40) t410 t416 (((rd_T49 t416 0).f0) != t411)) else (none)) else (foghornlaw30_MeterRuns.j0 k (l0.take ((ji4) : Int).toNat) y407 (Int.tmod (wrap64 (a2)) 40) t410 t416 false)))) else (foghornlaw30_MeterRuns.j0 k (l0.take ((ji4) : Int).toNat) y407 (Int.tmod (wrap64 (a2)) 40) t410 t416 true)) else (foghornlaw30_MeterRuns.j0 k (l0.take ((ji4) : Int).toNat) y407 (Int.tmod (wrap64 (a2)) 40) t410 t416 true)) else (foghornlaw30_MeterRuns.j0 k (l0.take ((ji4) : Int).toNat) y407 (Int.tmod (wrap64 (a2)) 40) t410 t416 true)) else (foghornlaw30_MeterRuns.j0 k (l0.take ((ji4) : Int).toNat) y407 (Int.tmod (wrap64 (a2)) 40) t410 t416 true)) else (foghornlaw30_MeterRuns.j0 k (l0.take ((ji4) : Int).toNat) y407 (Int.tmod (wrap64 (a2)) 40) t410 t416 true)) else (foghornlaw30_MeterRuns.j0 k (l0.take ((ji4) : Int).toNat) y407 (Int.tmod (wrap64 (a2)) 40) t410 t416 true))) = some r := H
     have A11 := Aside0.mk A110
     clear A110
     replace H := Option.bind_eq_some_iff.mp H
     obtain ⟨⟨t420, t421⟩, A120, H⟩ := H
     replace H : (if t412 = 0 then (if t415 = 0 then (if t417 = 0 then (if t421 = 0 then (if t410 = t413 then (if t411 = t414 then (if (t420.length : Int) > (t416.length : Int) then (foghornlaw30_MeterRuns.j0 k (l0.take ((ji4) : Int).toNat) y407 (Int.tmod (wrap64 (a2)) 40) t410 t416 true) else (if ((t410 == 0) != ((t416.length : Int) == 0)) = true then (foghornlaw30_MeterRuns.j0 k (l0.take ((ji4) : Int).toNat) y407 (Int.tmod (wrap64 (a2)) 40) t410 t416 true) else (if (t416.length : Int) > 0 then (if 0 < (t416.length : Int) then (foghornlaw30_MeterRuns.j0 k (l0.take ((ji4) : Int).toNat) y407 (Int.tmod (wrap64 (a2)) 40) t410 t416 (((rd_T49 t416 0).f0) != t411)) else (none)) else (foghornlaw30_MeterRuns.j0 k (l0.take ((ji4) : Int).toNat) y407 (Int.tmod (wrap64 (a2)) 40) t410 t416 false)))) else (foghornlaw30_MeterRuns.j0 k (l0.take ((ji4) : Int).toNat) y407 (Int.tmod (wrap64 (a2)) 40) t410 t416 true)) else (foghornlaw30_MeterRuns.j0 k (l0.take ((ji4) : Int).toNat) y407 (Int.tmod (wrap64 (a2)) 40) t410 t416 true)) else (foghornlaw30_MeterRuns.j0 k (l0.take ((ji4) : Int).toNat) y407 (Int.tmod (wrap64 (a2)) 40) t410 t416 true)) else (foghornlaw30_MeterRuns.j0 k (l0.take ((ji4) : Int).toNat) y407 (Int.tmod (wrap64 (a2)) 40) t410 t416 true)) else (foghornlaw30_MeterRuns.j0 k (l0.take ((ji4) : Int).toNat) y407 (Int.tmod (wrap64 (a2)) 40) t410 t416 true)) else (foghornlaw30_MeterRuns.j0 k (l0.take ((ji4) : Int).toNat) y407 (Int.tmod (wrap64 (a2)) 40) t410 t416 true)) = some r := H
     have A12 := Aside0.mk A120
     clear A120
     have HC13 := Aside0.mk H
     clear H
     obtain ⟨i014, hi014, _, hsz14, _⟩ := info_parts info4
     obtain ⟨hcut14, hA14, hC14⟩ := print_take_of (P := Try.prog) Value.bool false 36 4 .i64 Try.underlying36 hi014 hsz14 A0 c0 l0 (ji4) (of_decide_eq_true (by first | (with_reducible assumption) | assumption)) (of_decide_eq_true (by first | (with_reducible assumption) | assumption)) HC0.out
     have HR403 := Aside0.mk (Kd.C_of_reads (h1 := fun _ => rfl) (hA14 _ (Kd.reads_of_C HR0.out)))
     have HC403 := Aside0.mk hC14
     clear hA14 hC14 hi014 hsz14
     have HMK_ : Aside0 (max ji4 0 = ((l0.take ((ji4) : Int).toNat).length : Int)) := Aside0.mk <| by rw [List.length_take]; have h_ : ((ji4) : Int) ≤ (l0.length : Int) := (by first | exact of_decide_eq_true (by first | (with_reducible assumption) | assumption) | (rw [← hji4]; unfold mn; split <;> omega)); omega
     go_enter Try.func5, Try.ntmps5
     go_upto_region 9 with (first | ((with_reducible refine gate_dst (N := 31) rfl ?_); (try (refine gate_guard (by rfl) ?_; dsimp only)); (try rw [HMK_.out]); refine Kd.R_make Kd.bool _ 4 rfl (N := 31) rfl 36 _ _ rfl ((l0.take ((ji4) : Int).toNat).length : Int) rfl rfl Try.underlying36 (.bool false) 1 info4 rfl (by decide) (by omega) false (ok := fun _ => True) (okp := fun _ => True) rfl (fun _ hk => hk) trivial (of_decide_eq_true (by first | (with_reducible assumption) | assumption)) (Nat.le_trans (Nat.mul_le_mul_right _ (of_decide_eq_true (by first | (with_reducible assumption) | assumption) : ((l0.take ((ji4) : Int).toNat).length : Int).toNat ≤ 281474976710656)) (by omega)) (Below.refl _ _) (Nat.le_refl _) ?_; intro v405 w15 ho16 hb hg_ hnew_; clear hg_ hnew_; (first | rw [← Ny404.out] at ho16 | (simp only [Int.reduceToNat] at ho16; rw [← Ny404.out] at ho16)); have n0_ := Aside0.mk (Kd.R_lower ho16 (below_size (by repeat (first | (with_reducible first | exact HB.out | apply below_alloc | apply pw_below_drewN | apply below_drew1) | exact HB.out)))); have n1_ := Aside0.mk (below_step (by repeat (first | (with_reducible first | exact HB.out | apply below_alloc | apply pw_below_drewN | apply below_drew1) | exact HB.out)) hb); clear HB; have HO406 := n0_; have HB := n1_; clear n0_ n1_; clear hb ho16) | ((with_reducible refine gate_builtin (b := .copy) (xs := #[.tmp 32, .tmp 33]) rfl ?_); (try (refine gate_guard (by rfl) ?_; dsimp only)); skip; refine R_copyf (enc := Value.bool) (h1 := fun _ => rfl) (w0 := w) w.heap.size rfl (.tmp 32) (.tmp 33) 36 4 false rfl Try.underlying36 (show (Try.prog.info? 4).map (·.size) = some 1 from by kernel_rfl) v405 y404 l1 _ _ _ (fun _ => True) rfl rfl ?aO ?aR ?aB ?aS rfl ?_; (case aR => repeat (first | exact (Kd.C_below HR1.out HB.out) | (with_reducible refine Kd.C_alloc ?_ _) | (with_reducible refine Kd.C_drewN ?_ _) | (with_reducible refine Kd.C_drew ?_))); (case aB => exact (by repeat (first | (with_reducible first | exact HB.out | apply below_alloc | apply pw_below_drewN | apply below_drew1) | exact HB.out))); (case aO => exact (by (with_reducible repeat (first | apply Kd.R_alloc | apply Kd.R_drewN | apply Kd.R_drew)); exact HO406.out)); (case aS => exact (below_size (by repeat (first | (with_reducible first | exact HB.out | apply below_alloc | apply pw_below_drewN | apply below_drew1) | exact HB.out)))); intro w17 ho hb hg; have hat := True.intro; rw [← Ny407.out] at ho; have n0_ := Aside0.mk (hb); have n1_ := Aside0.mk (ho); clear HB; clear HO406; have HB := n0_; have HO409 := n1_; clear n0_ n1_; clear ho hb hg hat; obtain ⟨Ao18, co18, eo18⟩ := Kd.R_slice HO409.out; subst eo18) | (go_at_call 32; (try (conv => enter [3]; rw [show (ji4).toNat = (l0.take ((ji4) : Int).toNat).length from (show (l0.take ((ji4) : Int).toNat).length = (ji4).toNat from (by rw [List.length_take]; have h_ : ((ji4) : Int) ≤ (l0.length : Int) := (by first | exact of_decide_eq_true (by first | (with_reducible assumption) | assumption) | (rw [← hji4]; unfold mn; split <;> omega)); omega)).symm])); (with_reducible refine (meter_Errors.calls k _ _ (l0.take ((ji4) : Int).toNat) _ _ y407 t410 t411 t412 _ ?side1 ?side2 ?side3 ?side4 A9.out).mono ?_); (case side1 => repeat (first | exact (Kd.C_below HR403.out HB.out) | (with_reducible refine Kd.C_alloc ?_ _) | (with_reducible refine Kd.C_drewN ?_ _) | (with_reducible refine Kd.C_drew ?_))); (case side2 => exact HC403.out); (case side3 => repeat (first | exact (Kd.R_reads' HO409.out).2.2 | (with_reducible refine Kd.C_alloc ?_ _) | (with_reducible refine Kd.C_drewN ?_ _) | (with_reducible refine Kd.C_drew ?_))); (case side4 => exact (Kd.R_reads' HO409.out).2.1); rintro e w' ⟨rfl, ⟨nd, rfl⟩⟩; (try first | exact ⟨rfl, _, World.drewN_drewN _ _ _⟩ | exact ⟨rfl, _, Eq.trans (World.drewN_drewN _ _ _) (congrArg (World.drewN _) (Nat.add_assoc _ _ _))⟩)) | (go_at_call 32; (try (conv => enter [3]; rw [show (ji4).toNat = (l0.take ((ji4) : Int).toNat).length from (show (l0.take ((ji4) : Int).toNat).length = (ji4).toNat from (by rw [List.length_take]; have h_ : ((ji4) : Int) ≤ (l0.length : Int) := (by first | exact of_decide_eq_true (by first | (with_reducible assumption) | assumption) | (rw [← hji4]; unfold mn; split <;> omega)); omega)).symm])); (with_reducible refine (meter_Errors.calls k _ _ y407 _ _ (l0.take ((ji4) : Int).toNat) t413 t414 t415 _ ?side1 ?side2 ?side3 ?side4 A10.out).mono ?_); (case side1 => repeat (first | exact (Kd.R_reads' HO409.out).2.2 | (with_reducible refine Kd.C_alloc ?_ _) | (with_reducible refine Kd.C_drewN ?_ _) | (with_reducible refine Kd.C_drew ?_))); (case side2 => exact (Kd.R_reads' HO409.out).2.1); (case side3 => repeat (first | exact (Kd.C_below HR403.out (by repeat (first | (with_reducible first | exact HB.out | apply below_alloc | apply pw_below_drewN | apply below_drew1) | exact HB.out))) | (with_reducible refine Kd.C_alloc ?_ _) | (with_reducible refine Kd.C_drewN ?_ _) | (with_reducible refine Kd.C_drew ?_))); (case side4 => exact HC403.out); rintro e w' ⟨rfl, ⟨nd, rfl⟩⟩; (try first | exact ⟨rfl, _, World.drewN_drewN _ _ _⟩ | exact ⟨rfl, _, Eq.trans (World.drewN_drewN _ _ _) (congrArg (World.drewN _) (Nat.add_assoc _ _ _))⟩)) | (go_at_call 34; (try (conv => enter [3]; rw [show (ji4).toNat = (l0.take ((ji4) : Int).toNat).length from (show (l0.take ((ji4) : Int).toNat).length = (ji4).toNat from (by rw [List.length_take]; have h_ : ((ji4) : Int) ≤ (l0.length : Int) := (by first | exact of_decide_eq_true (by first | (with_reducible assumption) | assumption) | (rw [← hji4]; unfold mn; split <;> omega)); omega)).symm])); (with_reducible refine (meter_Runs.calls k _ _ (l0.take ((ji4) : Int).toNat) _ _ y407 (Int.tmod (wrap64 (a2)) 40) t416 t417 _ ?side1 ?side2 ?side3 ?side4 A11.out).mono ?_); (case side1 => repeat (first | exact (Kd.C_below HR403.out (by repeat (first | (with_reducible first | exact HB.out | apply below_alloc | apply pw_below_drewN | apply below_drew1) | exact HB.out))) | (with_reducible refine Kd.C_alloc ?_ _) | (with_reducible refine Kd.C_drewN ?_ _) | (with_reducible refine Kd.C_drew ?_))); (case side2 => exact HC403.out); (case side3 => repeat (first | exact (Kd.R_reads' HO409.out).2.2 | (with_reducible refine Kd.C_alloc ?_ _) | (with_reducible refine Kd.C_drewN ?_ _) | (with_reducible refine Kd.C_drew ?_))); (case side4 => exact (Kd.R_reads' HO409.out).2.1); rintro e w19 ⟨v418, rfl, ho0, hb⟩; have n0_ := Aside0.mk (Kd.R_below (by (with_reducible repeat (first | apply Kd.R_alloc | apply Kd.R_drewN | apply Kd.R_drew)); exact HO409.out) hb); have n1_ := Aside0.mk (Kd.R_lower ho0 (below_size (by repeat (first | (with_reducible first | exact HB.out | apply below_alloc | apply pw_below_drewN | apply below_drew1) | exact HB.out)))); have n2_ := Aside0.mk (below_step (by repeat (first | (with_reducible first | exact HB.out | apply below_alloc | apply pw_below_drewN | apply below_drew1) | exact HB.out)) hb); clear HO409; clear HB; have HO409 := n0_; have HO419 := n1_; have HB := n2_; clear n0_ n1_ n2_; (try clear hb); (try clear hb2); (try clear hk); (try clear hi); (try clear ho0)) | (go_at_call 34; (try (conv => enter [3]; rw [show (ji4).toNat = (l0.take ((ji4) : Int).toNat).length from (show (l0.take ((ji4) : Int).toNat).length = (ji4).toNat from (by rw [List.length_take]; have h_ : ((ji4) : Int) ≤ (l0.length : Int) := (by first | exact of_decide_eq_true (by first | (with_reducible assumption) | assumption) | (rw [← hji4]; unfold mn; split <;> omega)); omega)).symm])); (with_reducible refine (meter_Runs.calls k _ _ (l0.take ((ji4) : Int).toNat) _ _ y407 (wrap64 ((Int.tmod (wrap64 (a2)) 40) + 1)) t420 t421 _ ?side1 ?side2 ?side3 ?side4 A12.out).mono ?_); (case side1 => repeat (first | exact (Kd.C_below HR403.out HB.out) | (with_reducible refine Kd.C_alloc ?_ _) | (with_reducible refine Kd.C_drewN ?_ _) | (with_reducible refine Kd.C_drew ?_))); (case side2 => exact HC403.out); (case side3 => repeat (first | exact (Kd.R_reads' HO409.out).2.2 | (with_reducible refine Kd.C_alloc ?_ _) | (with_reducible refine Kd.C_drewN ?_ _) | (with_reducible refine Kd.C_drew ?_))); (case side4 => exact (Kd.R_reads' HO409.out).2.1); rintro e w20 ⟨v422, rfl, ho0, hb⟩; have n0_ := Aside0.mk (Kd.R_below (by (with_reducible repeat (first | apply Kd.R_alloc | apply Kd.R_drewN | apply Kd.R_drew)); exact HO409.out) hb); have n1_ := Aside0.mk (Kd.R_elder' (by (with_reducible repeat (first | apply Kd.R_alloc | apply Kd.R_drewN | apply Kd.R_drew)); exact HO419.out) (Kd.R_base ho0) hb); have n2_ := Aside0.mk (Kd.R_lower (Kd.R_new' ho0 (Kd.R_lt (by (with_reducible repeat (first | apply Kd.R_alloc | apply Kd.R_drewN | apply Kd.R_drew)); exact HO419.out))) (below_size (by repeat (first | (with_reducible first | exact HB.out | apply below_alloc | apply pw_below_drewN | apply below_drew1) | exact HB.out)))); have n3_ := Aside0.mk (below_step (by repeat (first | (with_reducible first | exact HB.out | apply below_alloc | apply pw_below_drewN | apply below_drew1) | exact HB.out)) hb); clear HO409; clear HO419; clear HB; have HO409 := n0_; have HO419 := n1_; have HO423 := n2_; have HB := n3_; clear n0_ n1_ n2_ n3_; (try clear hb); (try clear hb2); (try clear hk); (try clear hi); (try clear ho0)))
     repeat (go_quiet (first | ((with_reducible refine gate_dst (N := 31) rfl ?_); (try (refine gate_guard (by rfl) ?_; dsimp only)); (try rw [HMK_.out]); refine Kd.R_make Kd.bool _ 4 rfl (N := 31) rfl 36 _ _ rfl ((l0.take ((ji4) : Int).toNat).length : Int) rfl rfl Try.underlying36 (.bool false) 1 info4 rfl (by decide) (by omega) false (ok := fun _ => True) (okp := fun _ => True) rfl (fun _ hk => hk) trivial (of_decide_eq_true (by first | (with_reducible assumption) | assumption)) (Nat.le_trans (Nat.mul_le_mul_right _ (of_decide_eq_true (by first | (with_reducible assumption) | assumption) : ((l0.take ((ji4) : Int).toNat).length : Int).toNat ≤ 281474976710656)) (by omega)) (Below.refl _ _) (Nat.le_refl _) ?_; intro v405 w15 ho16 hb hg_ hnew_; clear hg_ hnew_; (first | rw [← Ny404.out] at ho16 | (simp only [Int.reduceToNat] at ho16; rw [← Ny404.out] at ho16)); have n0_ := Aside0.mk (Kd.R_lower ho16 (below_size (by repeat (first | (with_reducible first | exact HB.out | apply below_alloc | apply pw_below_drewN | apply below_drew1) | exact HB.out)))); have n1_ := Aside0.mk (below_step (by repeat (first | (with_reducible first | exact HB.out | apply below_alloc | apply pw_below_drewN | apply below_drew1) | exact HB.out)) hb); clear HB; have HO406 := n0_; have HB := n1_; clear n0_ n1_; clear hb ho16) | ((with_reducible refine gate_builtin (b := .copy) (xs := #[.tmp 32, .tmp 33]) rfl ?_); (try (refine gate_guard (by rfl) ?_; dsimp only)); skip; refine R_copyf (enc := Value.bool) (h1 := fun _ => rfl) (w0 := w) w.heap.size rfl (.tmp 32) (.tmp 33) 36 4 false rfl Try.underlying36 (show (Try.prog.info? 4).map (·.size) = some 1 from by kernel_rfl) v405 y404 l1 _ _ _ (fun _ => True) rfl rfl ?aO ?aR ?aB ?aS rfl ?_; (case aR => repeat (first | exact (Kd.C_below HR1.out HB.out) | (with_reducible refine Kd.C_alloc ?_ _) | (with_reducible refine Kd.C_drewN ?_ _) | (with_reducible refine Kd.C_drew ?_))); (case aB => exact (by repeat (first | (with_reducible first | exact HB.out | apply below_alloc | apply pw_below_drewN | apply below_drew1) | exact HB.out))); (case aO => exact (by (with_reducible repeat (first | apply Kd.R_alloc | apply Kd.R_drewN | apply Kd.R_drew)); exact HO406.out)); (case aS => exact (below_size (by repeat (first | (with_reducible first | exact HB.out | apply below_alloc | apply pw_below_drewN | apply below_drew1) | exact HB.out)))); intro w17 ho hb hg; have hat := True.intro; rw [← Ny407.out] at ho; have n0_ := Aside0.mk (hb); have n1_ := Aside0.mk (ho); clear HB; clear HO406; have HB := n0_; have HO409 := n1_; clear n0_ n1_; clear ho hb hg hat; obtain ⟨Ao18, co18, eo18⟩ := Kd.R_slice HO409.out; subst eo18) | (go_at_call 32; (try (conv => enter [3]; rw [show (ji4).toNat = (l0.take ((ji4) : Int).toNat).length from (show (l0.take ((ji4) : Int).toNat).length = (ji4).toNat from (by rw [List.length_take]; have h_ : ((ji4) : Int) ≤ (l0.length : Int) := (by first | exact of_decide_eq_true (by first | (with_reducible assumption) | assumption) | (rw [← hji4]; unfold mn; split <;> omega)); omega)).symm])); (with_reducible refine (meter_Errors.calls k _ _ (l0.take ((ji4) : Int).toNat) _ _ y407 t410 t411 t412 _ ?side1 ?side2 ?side3 ?side4 A9.out).mono ?_); (case side1 => repeat (first | exact (Kd.C_below HR403.out HB.out) | (with_reducible refine Kd.C_alloc ?_ _) | (with_reducible refine Kd.C_drewN ?_ _) | (with_reducible refine Kd.C_drew ?_))); (case side2 => exact HC403.out); (case side3 => repeat (first | exact (Kd.R_reads' HO409.out).2.2 | (with_reducible refine Kd.C_alloc ?_ _) | (with_reducible refine Kd.C_drewN ?_ _) | (with_reducible refine Kd.C_drew ?_))); (case side4 => exact (Kd.R_reads' HO409.out).2.1); rintro e w' ⟨rfl, ⟨nd, rfl⟩⟩; (try first | exact ⟨rfl, _, World.drewN_drewN _ _ _⟩ | exact ⟨rfl, _, Eq.trans (World.drewN_drewN _ _ _) (congrArg (World.drewN _) (Nat.add_assoc _ _ _))⟩)) | (go_at_call 32; (try (conv => enter [3]; rw [show (ji4).toNat = (l0.take ((ji4) : Int).toNat).length from (show (l0.take ((ji4) : Int).toNat).length = (ji4).toNat from (by rw [List.length_take]; have h_ : ((ji4) : Int) ≤ (l0.length : Int) := (by first | exact of_decide_eq_true (by first | (with_reducible assumption) | assumption) | (rw [← hji4]; unfold mn; split <;> omega)); omega)).symm])); (with_reducible refine (meter_Errors.calls k _ _ y407 _ _ (l0.take ((ji4) : Int).toNat) t413 t414 t415 _ ?side1 ?side2 ?side3 ?side4 A10.out).mono ?_); (case side1 => repeat (first | exact (Kd.R_reads' HO409.out).2.2 | (with_reducible refine Kd.C_alloc ?_ _) | (with_reducible refine Kd.C_drewN ?_ _) | (with_reducible refine Kd.C_drew ?_))); (case side2 => exact (Kd.R_reads' HO409.out).2.1); (case side3 => repeat (first | exact (Kd.C_below HR403.out (by repeat (first | (with_reducible first | exact HB.out | apply below_alloc | apply pw_below_drewN | apply below_drew1) | exact HB.out))) | (with_reducible refine Kd.C_alloc ?_ _) | (with_reducible refine Kd.C_drewN ?_ _) | (with_reducible refine Kd.C_drew ?_))); (case side4 => exact HC403.out); rintro e w' ⟨rfl, ⟨nd, rfl⟩⟩; (try first | exact ⟨rfl, _, World.drewN_drewN _ _ _⟩ | exact ⟨rfl, _, Eq.trans (World.drewN_drewN _ _ _) (congrArg (World.drewN _) (Nat.add_assoc _ _ _))⟩)) | (go_at_call 34; (try (conv => enter [3]; rw [show (ji4).toNat = (l0.take ((ji4) : Int).toNat).length from (show (l0.take ((ji4) : Int).toNat).length = (ji4).toNat from (by rw [List.length_take]; have h_ : ((ji4) : Int) ≤ (l0.length : Int) := (by first | exact of_decide_eq_true (by first | (with_reducible assumption) | assumption) | (rw [← hji4]; unfold mn; split <;> omega)); omega)).symm])); (with_reducible refine (meter_Runs.calls k _ _ (l0.take ((ji4) : Int).toNat) _ _ y407 (Int.tmod (wrap64 (a2)) 40) t416 t417 _ ?side1 ?side2 ?side3 ?side4 A11.out).mono ?_); (case side1 => repeat (first | exact (Kd.C_below HR403.out (by repeat (first | (with_reducible first | exact HB.out | apply below_alloc | apply pw_below_drewN | apply below_drew1) | exact HB.out))) | (with_reducible refine Kd.C_alloc ?_ _) | (with_reducible refine Kd.C_drewN ?_ _) | (with_reducible refine Kd.C_drew ?_))); (case side2 => exact HC403.out); (case side3 => repeat (first | exact (Kd.R_reads' HO409.out).2.2 | (with_reducible refine Kd.C_alloc ?_ _) | (with_reducible refine Kd.C_drewN ?_ _) | (with_reducible refine Kd.C_drew ?_))); (case side4 => exact (Kd.R_reads' HO409.out).2.1); rintro e w19 ⟨v418, rfl, ho0, hb⟩; have n0_ := Aside0.mk (Kd.R_below (by (with_reducible repeat (first | apply Kd.R_alloc | apply Kd.R_drewN | apply Kd.R_drew)); exact HO409.out) hb); have n1_ := Aside0.mk (Kd.R_lower ho0 (below_size (by repeat (first | (with_reducible first | exact HB.out | apply below_alloc | apply pw_below_drewN | apply below_drew1) | exact HB.out)))); have n2_ := Aside0.mk (below_step (by repeat (first | (with_reducible first | exact HB.out | apply below_alloc | apply pw_below_drewN | apply below_drew1) | exact HB.out)) hb); clear HO409; clear HB; have HO409 := n0_; have HO419 := n1_; have HB := n2_; clear n0_ n1_ n2_; (try clear hb); (try clear hb2); (try clear hk); (try clear hi); (try clear ho0)) | (go_at_call 34; (try (conv => enter [3]; rw [show (ji4).toNat = (l0.take ((ji4) : Int).toNat).length from (show (l0.take ((ji4) : Int).toNat).length = (ji4).toNat from (by rw [List.length_take]; have h_ : ((ji4) : Int) ≤ (l0.length : Int) := (by first | exact of_decide_eq_true (by first | (with_reducible assumption) | assumption) | (rw [← hji4]; unfold mn; split <;> omega)); omega)).symm])); (with_reducible refine (meter_Runs.calls k _ _ (l0.take ((ji4) : Int).toNat) _ _ y407 (wrap64 ((Int.tmod (wrap64 (a2)) 40) + 1)) t420 t421 _ ?side1 ?side2 ?side3 ?side4 A12.out).mono ?_); (case side1 => repeat (first | exact (Kd.C_below HR403.out HB.out) | (with_reducible refine Kd.C_alloc ?_ _) | (with_reducible refine Kd.C_drewN ?_ _) | (with_reducible refine Kd.C_drew ?_))); (case side2 => exact HC403.out); (case side3 => repeat (first | exact (Kd.R_reads' HO409.out).2.2 | (with_reducible refine Kd.C_alloc ?_ _) | (with_reducible refine Kd.C_drewN ?_ _) | (with_reducible refine Kd.C_drew ?_))); (case side4 => exact (Kd.R_reads' HO409.out).2.1); rintro e w20 ⟨v422, rfl, ho0, hb⟩; have n0_ := Aside0.mk (Kd.R_below (by (with_reducible repeat (first | apply Kd.R_alloc | apply Kd.R_drewN | apply Kd.R_drew)); exact HO409.out) hb); have n1_ := Aside0.mk (Kd.R_elder' (by (with_reducible repeat (first | apply Kd.R_alloc | apply Kd.R_drewN | apply Kd.R_drew)); exact HO419.out) (Kd.R_base ho0) hb); have n2_ := Aside0.mk (Kd.R_lower (Kd.R_new' ho0 (Kd.R_lt (by (with_reducible repeat (first | apply Kd.R_alloc | apply Kd.R_drewN | apply Kd.R_drew)); exact HO419.out))) (below_size (by repeat (first | (with_reducible first | exact HB.out | apply below_alloc | apply pw_below_drewN | apply below_drew1) | exact HB.out)))); have n3_ := Aside0.mk (below_step (by repeat (first | (with_reducible first | exact HB.out | apply below_alloc | apply pw_below_drewN | apply below_drew1) | exact HB.out)) hb); clear HO409; clear HO419; clear HB; have HO409 := n0_; have HO419 := n1_; have HO423 := n2_; have HB := n3_; clear n0_ n1_ n2_ n3_; (try clear hb); (try clear hb2); (try clear hk); (try clear hi); (try clear ho0))); go_upto_region 9 with (first | ((with_reducible refine gate_dst (N := 31) rfl ?_); (try (refine gate_guard (by rfl) ?_; dsimp only)); (try rw [HMK_.out]); refine Kd.R_make Kd.bool _ 4 rfl (N := 31) rfl 36 _ _ rfl ((l0.take ((ji4) : Int).toNat).length : Int) rfl rfl Try.underlying36 (.bool false) 1 info4 rfl (by decide) (by omega) false (ok := fun _ => True) (okp := fun _ => True) rfl (fun _ hk => hk) trivial (of_decide_eq_true (by first | (with_reducible assumption) | assumption)) (Nat.le_trans (Nat.mul_le_mul_right _ (of_decide_eq_true (by first | (with_reducible assumption) | assumption) : ((l0.take ((ji4) : Int).toNat).length : Int).toNat ≤ 281474976710656)) (by omega)) (Below.refl _ _) (Nat.le_refl _) ?_; intro v405 w15 ho16 hb hg_ hnew_; clear hg_ hnew_; (first | rw [← Ny404.out] at ho16 | (simp only [Int.reduceToNat] at ho16; rw [← Ny404.out] at ho16)); have n0_ := Aside0.mk (Kd.R_lower ho16 (below_size (by repeat (first | (with_reducible first | exact HB.out | apply below_alloc | apply pw_below_drewN | apply below_drew1) | exact HB.out)))); have n1_ := Aside0.mk (below_step (by repeat (first | (with_reducible first | exact HB.out | apply below_alloc | apply pw_below_drewN | apply below_drew1) | exact HB.out)) hb); clear HB; have HO406 := n0_; have HB := n1_; clear n0_ n1_; clear hb ho16) | ((with_reducible refine gate_builtin (b := .copy) (xs := #[.tmp 32, .tmp 33]) rfl ?_); (try (refine gate_guard (by rfl) ?_; dsimp only)); skip; refine R_copyf (enc := Value.bool) (h1 := fun _ => rfl) (w0 := w) w.heap.size rfl (.tmp 32) (.tmp 33) 36 4 false rfl Try.underlying36 (show (Try.prog.info? 4).map (·.size) = some 1 from by kernel_rfl) v405 y404 l1 _ _ _ (fun _ => True) rfl rfl ?aO ?aR ?aB ?aS rfl ?_; (case aR => repeat (first | exact (Kd.C_below HR1.out HB.out) | (with_reducible refine Kd.C_alloc ?_ _) | (with_reducible refine Kd.C_drewN ?_ _) | (with_reducible refine Kd.C_drew ?_))); (case aB => exact (by repeat (first | (with_reducible first | exact HB.out | apply below_alloc | apply pw_below_drewN | apply below_drew1) | exact HB.out))); (case aO => exact (by (with_reducible repeat (first | apply Kd.R_alloc | apply Kd.R_drewN | apply Kd.R_drew)); exact HO406.out)); (case aS => exact (below_size (by repeat (first | (with_reducible first | exact HB.out | apply below_alloc | apply pw_below_drewN | apply below_drew1) | exact HB.out)))); intro w17 ho hb hg; have hat := True.intro; rw [← Ny407.out] at ho; have n0_ := Aside0.mk (hb); have n1_ := Aside0.mk (ho); clear HB; clear HO406; have HB := n0_; have HO409 := n1_; clear n0_ n1_; clear ho hb hg hat; obtain ⟨Ao18, co18, eo18⟩ := Kd.R_slice HO409.out; subst eo18) | (go_at_call 32; (try (conv => enter [3]; rw [show (ji4).toNat = (l0.take ((ji4) : Int).toNat).length from (show (l0.take ((ji4) : Int).toNat).length = (ji4).toNat from (by rw [List.length_take]; have h_ : ((ji4) : Int) ≤ (l0.length : Int) := (by first | exact of_decide_eq_true (by first | (with_reducible assumption) | assumption) | (rw [← hji4]; unfold mn; split <;> omega)); omega)).symm])); (with_reducible refine (meter_Errors.calls k _ _ (l0.take ((ji4) : Int).toNat) _ _ y407 t410 t411 t412 _ ?side1 ?side2 ?side3 ?side4 A9.out).mono ?_); (case side1 => repeat (first | exact (Kd.C_below HR403.out HB.out) | (with_reducible refine Kd.C_alloc ?_ _) | (with_reducible refine Kd.C_drewN ?_ _) | (with_reducible refine Kd.C_drew ?_))); (case side2 => exact HC403.out); (case side3 => repeat (first | exact (Kd.R_reads' HO409.out).2.2 | (with_reducible refine Kd.C_alloc ?_ _) | (with_reducible refine Kd.C_drewN ?_ _) | (with_reducible refine Kd.C_drew ?_))); (case side4 => exact (Kd.R_reads' HO409.out).2.1); rintro e w' ⟨rfl, ⟨nd, rfl⟩⟩; (try first | exact ⟨rfl, _, World.drewN_drewN _ _ _⟩ | exact ⟨rfl, _, Eq.trans (World.drewN_drewN _ _ _) (congrArg (World.drewN _) (Nat.add_assoc _ _ _))⟩)) | (go_at_call 32; (try (conv => enter [3]; rw [show (ji4).toNat = (l0.take ((ji4) : Int).toNat).length from (show (l0.take ((ji4) : Int).toNat).length = (ji4).toNat from (by rw [List.length_take]; have h_ : ((ji4) : Int) ≤ (l0.length : Int) := (by first | exact of_decide_eq_true (by first | (with_reducible assumption) | assumption) | (rw [← hji4]; unfold mn; split <;> omega)); omega)).symm])); (with_reducible refine (meter_Errors.calls k _ _ y407 _ _ (l0.take ((ji4) : Int).toNat) t413 t414 t415 _ ?side1 ?side2 ?side3 ?side4 A10.out).mono ?_); (case side1 => repeat (first | exact (Kd.R_reads' HO409.out).2.2 | (with_reducible refine Kd.C_alloc ?_ _) | (with_reducible refine Kd.C_drewN ?_ _) | (with_reducible refine Kd.C_drew ?_))); (case side2 => exact (Kd.R_reads' HO409.out).2.1); (case side3 => repeat (first | exact (Kd.C_below HR403.out (by repeat (first | (with_reducible first | exact HB.out | apply below_alloc | apply pw_below_drewN | apply below_drew1) | exact HB.out))) | (with_reducible refine Kd.C_alloc ?_ _) | (with_reducible refine Kd.C_drewN ?_ _) | (with_reducible refine Kd.C_drew ?_))); (case side4 => exact HC403.out); rintro e w' ⟨rfl, ⟨nd, rfl⟩⟩; (try first | exact ⟨rfl, _, World.drewN_drewN _ _ _⟩ | exact ⟨rfl, _, Eq.trans (World.drewN_drewN _ _ _) (congrArg (World.drewN _) (Nat.add_assoc _ _ _))⟩)) | (go_at_call 34; (try (conv => enter [3]; rw [show (ji4).toNat = (l0.take ((ji4) : Int).toNat).length from (show (l0.take ((ji4) : Int).toNat).length = (ji4).toNat from (by rw [List.length_take]; have h_ : ((ji4) : Int) ≤ (l0.length : Int) := (by first | exact of_decide_eq_true (by first | (with_reducible assumption) | assumption) | (rw [← hji4]; unfold mn; split <;> omega)); omega)).symm])); (with_reducible refine (meter_Runs.calls k _ _ (l0.take ((ji4) : Int).toNat) _ _ y407 (Int.tmod (wrap64 (a2)) 40) t416 t417 _ ?side1 ?side2 ?side3 ?side4 A11.out).mono ?_); (case side1 => repeat (first | exact (Kd.C_below HR403.out (by repeat (first | (with_reducible first | exact HB.out | apply below_alloc | apply pw_below_drewN | apply below_drew1) | exact HB.out))) | (with_reducible refine Kd.C_alloc ?_ _) | (with_reducible refine Kd.C_drewN ?_ _) | (with_reducible refine Kd.C_drew ?_))); (case side2 => exact HC403.out); (case side3 => repeat (first | exact (Kd.R_reads' HO409.out).2.2 | (with_reducible refine Kd.C_alloc ?_ _) | (with_reducible refine Kd.C_drewN ?_ _) | (with_reducible refine Kd.C_drew ?_))); (case side4 => exact (Kd.R_reads' HO409.out).2.1); rintro e w19 ⟨v418, rfl, ho0, hb⟩; have n0_ := Aside0.mk (Kd.R_below (by (with_reducible repeat (first | apply Kd.R_alloc | apply Kd.R_drewN | apply Kd.R_drew)); exact HO409.out) hb); have n1_ := Aside0.mk (Kd.R_lower ho0 (below_size (by repeat (first | (with_reducible first | exact HB.out | apply below_alloc | apply pw_below_drewN | apply below_drew1) | exact HB.out)))); have n2_ := Aside0.mk (below_step (by repeat (first | (with_reducible first | exact HB.out | apply below_alloc | apply pw_below_drewN | apply below_drew1) | exact HB.out)) hb); clear HO409; clear HB; have HO409 := n0_; have HO419 := n1_; have HB := n2_; clear n0_ n1_ n2_; (try clear hb); (try clear hb2); (try clear hk); (try clear hi); (try clear ho0)) | (go_at_call 34; (try (conv => enter [3]; rw [show (ji4).toNat = (l0.take ((ji4) : Int).toNat).length from (show (l0.take ((ji4) : Int).toNat).length = (ji4).toNat from (by rw [List.length_take]; have h_ : ((ji4) : Int) ≤ (l0.length : Int) := (by first | exact of_decide_eq_true (by first | (with_reducible assumption) | assumption) | (rw [← hji4]; unfold mn; split <;> omega)); omega)).symm])); (with_reducible refine (meter_Runs.calls k _ _ (l0.take ((ji4) : Int).toNat) _ _ y407 (wrap64 ((Int.tmod (wrap64 (a2)) 40) + 1)) t420 t421 _ ?side1 ?side2 ?side3 ?side4 A12.out).mono ?_); (case side1 => repeat (first | exact (Kd.C_below HR403.out HB.out) | (with_reducible refine Kd.C_alloc ?_ _) | (with_reducible refine Kd.C_drewN ?_ _) | (with_reducible refine Kd.C_drew ?_))); (case side2 => exact HC403.out); (case side3 => repeat (first | exact (Kd.R_reads' HO409.out).2.2 | (with_reducible refine Kd.C_alloc ?_ _) | (with_reducible refine Kd.C_drewN ?_ _) | (with_reducible refine Kd.C_drew ?_))); (case side4 => exact (Kd.R_reads' HO409.out).2.1); rintro e w20 ⟨v422, rfl, ho0, hb⟩; have n0_ := Aside0.mk (Kd.R_below (by (with_reducible repeat (first | apply Kd.R_alloc | apply Kd.R_drewN | apply Kd.R_drew)); exact HO409.out) hb); have n1_ := Aside0.mk (Kd.R_elder' (by (with_reducible repeat (first | apply Kd.R_alloc | apply Kd.R_drewN | apply Kd.R_drew)); exact HO419.out) (Kd.R_base ho0) hb); have n2_ := Aside0.mk (Kd.R_lower (Kd.R_new' ho0 (Kd.R_lt (by (with_reducible repeat (first | apply Kd.R_alloc | apply Kd.R_drewN | apply Kd.R_drew)); exact HO419.out))) (below_size (by repeat (first | (with_reducible first | exact HB.out | apply below_alloc | apply pw_below_drewN | apply below_drew1) | exact HB.out)))); have n3_ := Aside0.mk (below_step (by repeat (first | (with_reducible first | exact HB.out | apply below_alloc | apply pw_below_drewN | apply below_drew1) | exact HB.out)) hb); clear HO409; clear HO419; clear HB; have HO409 := n0_; have HO419 := n1_; have HO423 := n2_; have HB := n3_; clear n0_ n1_ n2_ n3_; (try clear hb); (try clear hb2); (try clear hk); (try clear hi); (try clear ho0))))
     (try simp only [Act.put, List.setIfInBounds_toArray, List.set_cons_zero, List.set_cons_succ])
     go_cut [118] (fun v118 wc => ∃ (kq : Nat) (x118_12 : Bool), v118 = .bool x118_12 ∧ Aside0 (foghornlaw30_MeterRuns.j0 kq (l0.take ((ji4) : Int).toNat) y407 (Int.tmod (wrap64 (a2)) 40) t410 t416 x118_12 = some r) ∧ Aside0 (kq ≤ k) ∧ Aside0 (Kd.R Kd.bool 4 wc w.heap.size (fun _ => True) (.slice Ao18 y407.length co18) y407) ∧ Aside0 (Kd.R k49 49 wc w.heap.size (fun _ => True) v418 t416) ∧ Aside0 (Below w.heap.size w wc))
     case first =>
      have H := HC13.out
      clear HC13
      by_cases c21 : t412 = 0
      ·rw [if_pos c21] at H
       have c21b0 : (t412 == 0) = true := beq_iff_eq.mpr c21
       have c21b1 : (t412 != 0) = false := bne_eq_false_iff_eq.mpr c21
       clear c21
       (first | rw [c21b0] | (simp only [i64_w, i32_w]; rw [c21b0]) | skip)
       by_cases c22 : t415 = 0
       ·rw [if_pos c22] at H
        have c22b0 : (t415 == 0) = true := beq_iff_eq.mpr c22
        have c22b1 : (t415 != 0) = false := bne_eq_false_iff_eq.mpr c22
        clear c22
        by_cases c23 : t417 = 0
        ·rw [if_pos c23] at H
         have c23b0 : (t417 == 0) = true := beq_iff_eq.mpr c23
         have c23b1 : (t417 != 0) = false := bne_eq_false_iff_eq.mpr c23
         clear c23
         by_cases c24 : t421 = 0
         ·rw [if_pos c24] at H
          have c24b0 : (t421 == 0) = true := beq_iff_eq.mpr c24
          have c24b1 : (t421 != 0) = false := bne_eq_false_iff_eq.mpr c24
          clear c24
          by_cases c25 : t410 = t413
          ·rw [if_pos c25] at H
           have c25b0 : (t410 == t413) = true := beq_iff_eq.mpr c25
           have c25b1 : (t410 != t413) = false := bne_eq_false_iff_eq.mpr c25
           clear c25
           by_cases c26 : t411 = t414
           ·rw [if_pos c26] at H
            have c26b0 : (t411 == t414) = true := beq_iff_eq.mpr c26
            have c26b1 : (t411 != t414) = false := bne_eq_false_iff_eq.mpr c26
            clear c26
            by_cases c27 : (t420.length : Int) > (t416.length : Int)
            ·rw [if_pos c27] at H
             have c27b0 : decide ((t416.length : Int) < (t420.length : Int)) = true := decide_eq_true c27
             have c27b1 : decide (t416.length < t420.length) = true := decide_eq_true (Int.ofNat_lt.mp c27)
             clear c27
             as_aux_lemma =>
              have H' := Aside0.mk H
              clear H
              obtain ⟨Ao28, co28, eo28⟩ := Kd.R_slice HO423.out
              subst eo28
              obtain ⟨Ao29, co29, eo29⟩ := Kd.R_slice HO419.out
              subst eo29
              go_wp2
              repeat (go_quiet (fail); try go_wp2)
              go_meet
              case rel => exact ⟨_, (true), (by first | rfl | (simp; done) | (simp [*]; done)), H', ⟨by first | omega | exact Nat.le_refl _⟩, ⟨by (with_reducible repeat (first | apply Kd.R_alloc | apply Kd.R_drewN | apply Kd.R_drew)); exact HO409.out⟩, ⟨by (with_reducible repeat (first | apply Kd.R_alloc | apply Kd.R_drewN | apply Kd.R_drew)); exact Kd.R_mono HO419.out (fun _ hk => trivial)⟩, ⟨by repeat (first | (with_reducible first | exact HB.out | apply below_alloc | apply pw_below_drewN | apply below_drew1) | exact HB.out)⟩⟩
            ·rw [if_neg c27] at H
             have c27b0 : decide ((t416.length : Int) < (t420.length : Int)) = false := decide_eq_false c27
             have c27b1 : decide (t416.length < t420.length) = false := decide_eq_false (fun h => c27 (Int.ofNat_lt.mpr h))
             clear c27
             by_cases c30 : ((t410 == 0) != ((t416.length : Int) == 0)) = true
             ·rw [if_pos c30] at H
              have c30b0 : ((t410 == 0) != ((t416.length : Int) == 0)) = true := c30
              (try (have c30b1 : decide ((t410 == 0) = ((t416.length : Int) == 0)) = false := by simpa using c30))
              (try (have c30b2 : ((t410 == 0) == ((t416.length : Int) == 0)) = false := by simpa using c30))
              (try (have c30b3 : ¬ ((t410 == 0) = ((t416.length : Int) == 0)) := by simpa using c30))
              clear c30
              as_aux_lemma =>
               have H' := Aside0.mk H
               clear H
               obtain ⟨Ao31, co31, eo31⟩ := Kd.R_slice HO423.out
               subst eo31
               obtain ⟨Ao32, co32, eo32⟩ := Kd.R_slice HO419.out
               subst eo32
               go_wp2
               repeat (go_quiet (fail); try go_wp2)
               go_meet
               case rel => exact ⟨_, (true), (by first | rfl | (simp; done) | (simp [*]; done)), H', ⟨by first | omega | exact Nat.le_refl _⟩, ⟨by (with_reducible repeat (first | apply Kd.R_alloc | apply Kd.R_drewN | apply Kd.R_drew)); exact HO409.out⟩, ⟨by (with_reducible repeat (first | apply Kd.R_alloc | apply Kd.R_drewN | apply Kd.R_drew)); exact Kd.R_mono HO419.out (fun _ hk => trivial)⟩, ⟨by repeat (first | (with_reducible first | exact HB.out | apply below_alloc | apply pw_below_drewN | apply below_drew1) | exact HB.out)⟩⟩
             ·rw [if_neg c30] at H
              have c30b0 : ((t410 == 0) != ((t416.length : Int) == 0)) = false := by simpa using c30
              (try (have c30b1 : decide ((t410 == 0) = ((t416.length : Int) == 0)) = true := by simpa using c30))
              (try (have c30b2 : ((t410 == 0) == ((t416.length : Int) == 0)) = true := by simpa using c30))
              clear c30
              by_cases c33 : (t416.length : Int) > 0
              ·rw [if_pos c33] at H
               have c33b0 : decide (0 < (t416.length : Int)) = true := decide_eq_true c33
               have c33b1 : decide (0 < t416.length) = true := decide_eq_true (by omega)
               clear c33
               by_cases c34 : 0 < (t416.length : Int)
               ·rw [if_pos c34] at H
                have c34b0 : decide (0 < (t416.length : Int)) = true := decide_eq_true c34
                have c34b1 : decide (0 < t416.length) = true := decide_eq_true (by omega)
                clear c34
                as_aux_lemma =>
                 have H' := Aside0.mk H
                 clear H
                 obtain ⟨Ao35, co35, eo35⟩ := Kd.R_slice HO423.out
                 subst eo35
                 obtain ⟨Ao36, co36, eo36⟩ := Kd.R_slice HO419.out
                 subst eo36
                 have p424 : 0 ≤ (0 : Int) := (by omega)
                 have q424 : 0 < (t416.length : Int) := of_decide_eq_true (by first | (with_reducible assumption) | assumption)
                 obtain ⟨ad424, e424, hx424_0, hx424_1, hx424_2⟩ := at_T49 (Kd.R_reads' HO419.out).2.2 0 p424 q424
                 cases e424
                 have qi424 : (0 < t416.length) = True := eq_true (by omega)
                 (try rw [show ((0 : Int)).toNat = 0 from rfl] at hx424_0)
                 (try rw [show 0 * 3 = 0 from rfl] at hx424_0)
                 (try rw [Addr.add_zero'] at hx424_0)
                 (try rw [show ((0 : Int)).toNat = 0 from rfl] at hx424_1)
                 (try rw [show 0 * 3 = 0 from rfl] at hx424_1)
                 (try rw [Addr.add_zero'] at hx424_1)
                 (try rw [show ((0 : Int)).toNat = 0 from rfl] at hx424_2)
                 (try rw [show 0 * 3 = 0 from rfl] at hx424_2)
                 (try rw [Addr.add_zero'] at hx424_2)
                 replace p424 := eq_true p424
                 replace q424 := eq_true q424
                 go_wp2
                 repeat (go_quiet (fail); try go_wp2)
                 go_meet
                 case rel => exact ⟨_, ((((rd_T49 t416 0).f0) != t411)), (by first | rfl | (simp; done) | (simp [*]; done)), H', ⟨by first | omega | exact Nat.le_refl _⟩, ⟨by (with_reducible repeat (first | apply Kd.R_alloc | apply Kd.R_drewN | apply Kd.R_drew)); exact HO409.out⟩, ⟨by (with_reducible repeat (first | apply Kd.R_alloc | apply Kd.R_drewN | apply Kd.R_drew)); exact Kd.R_mono HO419.out (fun _ hk => trivial)⟩, ⟨by repeat (first | (with_reducible first | exact HB.out | apply below_alloc | apply pw_below_drewN | apply below_drew1) | exact HB.out)⟩⟩
               ·rw [if_neg c34] at H
                exact absurd H (by simp)
              ·rw [if_neg c33] at H
               have c33b0 : decide (0 < (t416.length : Int)) = false := decide_eq_false c33
               have c33b1 : decide (0 < t416.length) = false := decide_eq_false (by omega)
               clear c33
               as_aux_lemma =>
                have H' := Aside0.mk H
                clear H
                obtain ⟨Ao37, co37, eo37⟩ := Kd.R_slice HO423.out
                subst eo37
                obtain ⟨Ao38, co38, eo38⟩ := Kd.R_slice HO419.out
                subst eo38
                go_wp2
                repeat (go_quiet (fail); try go_wp2)
                go_meet
                case rel => exact ⟨_, (false), (by first | rfl | (simp; done) | (simp [*]; done)), H', ⟨by first | omega | exact Nat.le_refl _⟩, ⟨by (with_reducible repeat (first | apply Kd.R_alloc | apply Kd.R_drewN | apply Kd.R_drew)); exact HO409.out⟩, ⟨by (with_reducible repeat (first | apply Kd.R_alloc | apply Kd.R_drewN | apply Kd.R_drew)); exact Kd.R_mono HO419.out (fun _ hk => trivial)⟩, ⟨by repeat (first | (with_reducible first | exact HB.out | apply below_alloc | apply pw_below_drewN | apply below_drew1) | exact HB.out)⟩⟩
           ·rw [if_neg c26] at H
            have c26b0 : (t411 == t414) = false := beq_eq_false_iff_ne.mpr c26
            have c26b1 : (t411 != t414) = true := bne_iff_ne.mpr c26
            as_aux_lemma =>
             have H' := Aside0.mk H
             clear H
             go_wp2
             repeat (go_quiet (fail); try go_wp2)
             go_meet
             case rel => exact ⟨_, (true), (by first | rfl | (simp; done) | (simp [*]; done)), H', ⟨by first | omega | exact Nat.le_refl _⟩, ⟨by (with_reducible repeat (first | apply Kd.R_alloc | apply Kd.R_drewN | apply Kd.R_drew)); exact HO409.out⟩, ⟨by (with_reducible repeat (first | apply Kd.R_alloc | apply Kd.R_drewN | apply Kd.R_drew)); exact Kd.R_mono HO419.out (fun _ hk => trivial)⟩, ⟨by repeat (first | (with_reducible first | exact HB.out | apply below_alloc | apply pw_below_drewN | apply below_drew1) | exact HB.out)⟩⟩
          ·rw [if_neg c25] at H
           have c25b0 : (t410 == t413) = false := beq_eq_false_iff_ne.mpr c25
           have c25b1 : (t410 != t413) = true := bne_iff_ne.mpr c25
           as_aux_lemma =>
            have H' := Aside0.mk H
            clear H
            go_wp2
            repeat (go_quiet (fail); try go_wp2)
            go_meet
            case rel => exact ⟨_, (true), (by first | rfl | (simp; done) | (simp [*]; done)), H', ⟨by first | omega | exact Nat.le_refl _⟩, ⟨by (with_reducible repeat (first | apply Kd.R_alloc | apply Kd.R_drewN | apply Kd.R_drew)); exact HO409.out⟩, ⟨by (with_reducible repeat (first | apply Kd.R_alloc | apply Kd.R_drewN | apply Kd.R_drew)); exact Kd.R_mono HO419.out (fun _ hk => trivial)⟩, ⟨by repeat (first | (with_reducible first | exact HB.out | apply below_alloc | apply pw_below_drewN | apply below_drew1) | exact HB.out)⟩⟩
         ·rw [if_neg c24] at H
          have c24b0 : (t421 == 0) = false := beq_eq_false_iff_ne.mpr c24
          have c24b1 : (t421 != 0) = true := bne_iff_ne.mpr c24
          as_aux_lemma =>
           have H' := Aside0.mk H
           clear H
           go_wp2
           repeat (go_quiet (fail); try go_wp2)
           go_meet
           case rel => exact ⟨_, (true), (by first | rfl | (simp; done) | (simp [*]; done)), H', ⟨by first | omega | exact Nat.le_refl _⟩, ⟨by (with_reducible repeat (first | apply Kd.R_alloc | apply Kd.R_drewN | apply Kd.R_drew)); exact HO409.out⟩, ⟨by (with_reducible repeat (first | apply Kd.R_alloc | apply Kd.R_drewN | apply Kd.R_drew)); exact Kd.R_mono HO419.out (fun _ hk => trivial)⟩, ⟨by repeat (first | (with_reducible first | exact HB.out | apply below_alloc | apply pw_below_drewN | apply below_drew1) | exact HB.out)⟩⟩
        ·rw [if_neg c23] at H
         have c23b0 : (t417 == 0) = false := beq_eq_false_iff_ne.mpr c23
         have c23b1 : (t417 != 0) = true := bne_iff_ne.mpr c23
         as_aux_lemma =>
          have H' := Aside0.mk H
          clear H
          go_wp2
          repeat (go_quiet (fail); try go_wp2)
          go_meet
          case rel => exact ⟨_, (true), (by first | rfl | (simp; done) | (simp [*]; done)), H', ⟨by first | omega | exact Nat.le_refl _⟩, ⟨by (with_reducible repeat (first | apply Kd.R_alloc | apply Kd.R_drewN | apply Kd.R_drew)); exact HO409.out⟩, ⟨by (with_reducible repeat (first | apply Kd.R_alloc | apply Kd.R_drewN | apply Kd.R_drew)); exact Kd.R_mono HO419.out (fun _ hk => trivial)⟩, ⟨by repeat (first | (with_reducible first | exact HB.out | apply below_alloc | apply pw_below_drewN | apply below_drew1) | exact HB.out)⟩⟩
       ·rw [if_neg c22] at H
        have c22b0 : (t415 == 0) = false := beq_eq_false_iff_ne.mpr c22
        have c22b1 : (t415 != 0) = true := bne_iff_ne.mpr c22
        as_aux_lemma =>
         have H' := Aside0.mk H
         clear H
         go_wp2
         repeat (go_quiet (fail); try go_wp2)
         go_meet
         case rel => exact ⟨_, (true), (by first | rfl | (simp; done) | (simp [*]; done)), H', ⟨by first | omega | exact Nat.le_refl _⟩, ⟨by (with_reducible repeat (first | apply Kd.R_alloc | apply Kd.R_drewN | apply Kd.R_drew)); exact HO409.out⟩, ⟨by (with_reducible repeat (first | apply Kd.R_alloc | apply Kd.R_drewN | apply Kd.R_drew)); exact Kd.R_mono HO419.out (fun _ hk => trivial)⟩, ⟨by repeat (first | (with_reducible first | exact HB.out | apply below_alloc | apply pw_below_drewN | apply below_drew1) | exact HB.out)⟩⟩
      ·rw [if_neg c21] at H
       have c21b0 : (t412 == 0) = false := beq_eq_false_iff_ne.mpr c21
       have c21b1 : (t412 != 0) = true := bne_iff_ne.mpr c21
       (first | rw [c21b0] | (simp only [i64_w, i32_w]; rw [c21b0]) | skip)
       as_aux_lemma =>
        have H' := Aside0.mk H
        clear H
        go_wp2
        repeat (go_quiet (fail); try go_wp2)
        go_meet
        case rel => exact ⟨_, (true), (by first | rfl | (simp; done) | (simp [*]; done)), H', ⟨by first | omega | exact Nat.le_refl _⟩, ⟨by (with_reducible repeat (first | apply Kd.R_alloc | apply Kd.R_drewN | apply Kd.R_drew)); exact HO409.out⟩, ⟨by (with_reducible repeat (first | apply Kd.R_alloc | apply Kd.R_drewN | apply Kd.R_drew)); exact Kd.R_mono HO419.out (fun _ hk => trivial)⟩, ⟨by repeat (first | (with_reducible first | exact HB.out | apply below_alloc | apply pw_below_drewN | apply below_drew1) | exact HB.out)⟩⟩
     case rest =>
      clear HC13
      try clear c1
      try clear c2
      try clear p2
      try clear c3
      try clear p4
      try clear q4
      try clear hx4
      try clear qi4
      try clear c5
      try clear c5b0
      try clear c5b1
      try clear c6
      try clear c6b0
      try clear c6b1
      try clear p6
      try clear c7
      try clear c7b0
      try clear c7b1
      try clear c8
      try clear c8b0
      try clear c8b1
      try clear c21
      try clear c21b0
      try clear c21b1
      try clear c22
      try clear c22b0
      try clear c22b1
      try clear c23
      try clear c23b0
      try clear c23b1
      try clear c24
      try clear c24b0
      try clear c24b1
      try clear c25
      try clear c25b0
      try clear c25b1
      try clear c26
      try clear c26b0
      try clear c26b1
      try clear c27
      try clear c27b0
      try clear c27b1
      try clear c30
      try clear c30b0
      try clear c30b1
      try clear c30b2
      try clear c33
      try clear c33b0
      try clear c33b1
      try clear c34
      try clear c34b0
      try clear c34b1
      try clear hx424_0
      try clear hx424_1
      try clear hx424_2
      try clear p424
      try clear q424
      obtain ⟨kq, x118_12, rfl, HA, HJ12, HO_8, HO_16, HB⟩ := hcut
      cases kq with
      | zero => exact absurd HA.out (by simp [foghornlaw30_MeterRuns.j0])
      | succ kj12 =>
       have H := HA.out
       clear HA
       simp only [foghornlaw30_MeterRuns.j0] at H
       by_cases c39 : x118_12 = true
       ·subst c39
        have H1 : (some false) = some r := by rw [if_pos rfl] at H; exact H
        clear H
        have H := H1
        clear H1
        as_aux_lemma =>
         exact absurd ((Option.some.inj H).trans HQ_.out) (by decide)
       ·replace c39 := Bool.eq_false_iff.mpr c39
        subst c39
        have H1 : (foghornlaw30_MeterRuns.l0 kj12 (l0.take ((ji4) : Int).toNat) y407 (Int.tmod (wrap64 (a2)) 40) t410 t416 0 (-1000) 0) = some r := by rw [if_neg (show ¬ (false = true) by decide)] at H; exact H
        clear H
        have H := H1
        clear H1
        have H' := Aside0.mk H
        clear H
        go_wp2
        repeat (go_quiet (fail); try go_wp2)
        go_loopg [20, 21, 22] kj12 (fun kq v20 v21 v22 w' => ∃ (x20_2 : Int) (x21_2 : Int) (x22_2 : Int), v20 = .int .i64 x20_2 ∧ v21 = .int .i64 x21_2 ∧ v22 = .int .i64 x22_2 ∧ Aside0 (foghornlaw30_MeterRuns.l0 kq (l0.take ((ji4) : Int).toNat) y407 (Int.tmod (wrap64 (a2)) 40) t410 t416 x20_2 x21_2 x22_2 = some r) ∧ Aside0 (kq ≤ kj12) ∧ Aside0 (Kd.R Kd.bool 4 w' w.heap.size (fun _ => True) (.slice Ao18 y407.length co18) y407) ∧ Aside0 (Kd.R k49 49 w' w.heap.size (fun _ => True) v418 t416) ∧ Aside0 (Below w.heap.size w w'))
        case atStart => exact ⟨(0), ((-1000)), (0), (by first | rfl | (simp; done) | (simp [*]; done)), (by first | rfl | (simp; done) | (simp [*]; done)), (by first | rfl | (simp; done) | (simp [*]; done)), H', ⟨Nat.le_refl _⟩, ⟨by (with_reducible repeat (first | apply Kd.R_alloc | apply Kd.R_drewN | apply Kd.R_drew)); exact HO_8.out⟩, ⟨by (with_reducible repeat (first | apply Kd.R_alloc | apply Kd.R_drewN | apply Kd.R_drew)); exact HO_16.out⟩, ⟨by repeat (first | (with_reducible first | exact HB.out | apply below_alloc | apply pw_below_drewN | apply below_drew1) | exact HB.out)⟩⟩
        case round =>
         clear H'
         try clear c1
         try clear c2
         try clear p2
         try clear c3
         try clear p4
         try clear q4
         try clear hx4
         try clear qi4
         try clear c5
         try clear c5b0
         try clear c5b1
         try clear c6
         try clear c6b0
         try clear c6b1
         try clear p6
         try clear c7
         try clear c7b0
         try clear c7b1
         try clear c8
         try clear c8b0
         try clear c8b1
         try clear c21
         try clear c21b0
         try clear c21b1
         try clear c22
         try clear c22b0
         try clear c22b1
         try clear c23
         try clear c23b0
         try clear c23b1
         try clear c24
         try clear c24b0
         try clear c24b1
         try clear c25
         try clear c25b0
         try clear c25b1
         try clear c26
         try clear c26b0
         try clear c26b1
         try clear c27
         try clear c27b0
         try clear c27b1
         try clear c30
         try clear c30b0
         try clear c30b1
         try clear c30b2
         try clear c33
         try clear c33b0
         try clear c33b1
         try clear c34
         try clear c34b0
         try clear c34b1
         try clear c39
         try clear hx424_0
         try clear hx424_1
         try clear hx424_2
         try clear p2
         try clear p4
         try clear p424
         try clear p6
         try clear q4
         try clear q424
         obtain ⟨x20_2, x21_2, x22_2, rfl, rfl, rfl, HA, HK2, HO_8, HO_16, HB⟩ := hrel
         cases gk with
         | zero => exact absurd HA.out (by simp [foghornlaw30_MeterRuns.l0])
         | succ k2 =>
          have H := HA.out
          clear HA
          simp only [foghornlaw30_MeterRuns.l0] at H
          by_cases c40 : x22_2 < (t416.length : Int)
          ·rw [if_pos c40] at H
           have c40b0 : decide (x22_2 < (t416.length : Int)) = true := decide_eq_true c40
           clear c40
           by_cases c41 : 0 ≤ x22_2
           ·rw [if_pos c41] at H
            have c41b0 : decide (0 ≤ x22_2) = true := decide_eq_true c41
            clear c41
            by_cases c42 : ((rd_T49 t416 x22_2).f0) ≤ (wrap64 (x21_2 + (Int.tmod (wrap64 (a2)) 40)))
            ·rw [if_pos c42] at H
             have c42b0 : decide (((rd_T49 t416 x22_2).f0) ≤ (wrap64 (x21_2 + (Int.tmod (wrap64 (a2)) 40)))) = true := decide_eq_true c42
             clear c42
             as_aux_lemma =>
              exact absurd ((Option.some.inj H).trans HQ_.out) (by decide)
            ·rw [if_neg c42] at H
             have c42b0 : decide (((rd_T49 t416 x22_2).f0) ≤ (wrap64 (x21_2 + (Int.tmod (wrap64 (a2)) 40)))) = false := decide_eq_false c42
             clear c42
             by_cases c43 : ((rd_T49 t416 x22_2).f0) < 0
             ·rw [if_pos c43] at H
              have c43b0 : decide (((rd_T49 t416 x22_2).f0) < 0) = true := decide_eq_true c43
              clear c43
              as_aux_lemma =>
               exact absurd ((Option.some.inj H).trans HQ_.out) (by decide)
             ·rw [if_neg c43] at H
              have c43b0 : decide (((rd_T49 t416 x22_2).f0) < 0) = false := decide_eq_false c43
              clear c43
              by_cases c44 : ((rd_T49 t416 x22_2).f1) < 1
              ·rw [if_pos c44] at H
               have c44b0 : decide (((rd_T49 t416 x22_2).f1) < 1) = true := decide_eq_true c44
               clear c44
               as_aux_lemma =>
                exact absurd ((Option.some.inj H).trans HQ_.out) (by decide)
              ·rw [if_neg c44] at H
               have c44b0 : decide (((rd_T49 t416 x22_2).f1) < 1) = false := decide_eq_false c44
               clear c44
               by_cases c45 : (wrap64 (((rd_T49 t416 x22_2).f0) + ((rd_T49 t416 x22_2).f1))) > ((l0.take ((ji4) : Int).toNat).length : Int)
               ·rw [if_pos c45] at H
                have c45b0 : decide (((l0.take ((ji4) : Int).toNat).length : Int) < (wrap64 (((rd_T49 t416 x22_2).f0) + ((rd_T49 t416 x22_2).f1)))) = true := decide_eq_true c45
                (try (have c45b0z := c45b0; (try rw [show (l0.take ((ji4) : Int).toNat).length = (ji4).toNat from (by rw [List.length_take]; have h_ : ((ji4) : Int) ≤ (l0.length : Int) := (by first | exact of_decide_eq_true (by first | (with_reducible assumption) | assumption) | (rw [← hji4]; unfold mn; split <;> omega)); omega)] at c45b0z)))
                (try (have c45b0w := c45b0z; rw [Int.ofNat_toNat] at c45b0w))
                clear c45
                as_aux_lemma =>
                 exact absurd ((Option.some.inj H).trans HQ_.out) (by decide)
               ·rw [if_neg c45] at H
                have c45b0 : decide (((l0.take ((ji4) : Int).toNat).length : Int) < (wrap64 (((rd_T49 t416 x22_2).f0) + ((rd_T49 t416 x22_2).f1)))) = false := decide_eq_false c45
                (try (have c45b0z := c45b0; (try rw [show (l0.take ((ji4) : Int).toNat).length = (ji4).toNat from (by rw [List.length_take]; have h_ : ((ji4) : Int) ≤ (l0.length : Int) := (by first | exact of_decide_eq_true (by first | (with_reducible assumption) | assumption) | (rw [← hji4]; unfold mn; split <;> omega)); omega)] at c45b0z)))
                (try (have c45b0w := c45b0z; rw [Int.ofNat_toNat] at c45b0w))
                clear c45
                by_cases c46 : ((rd_T49 t416 x22_2).f2) < 1
                ·rw [if_pos c46] at H
                 have c46b0 : decide (((rd_T49 t416 x22_2).f2) < 1) = true := decide_eq_true c46
                 clear c46
                 as_aux_lemma =>
                  exact absurd ((Option.some.inj H).trans HQ_.out) (by decide)
                ·rw [if_neg c46] at H
                 have c46b0 : decide (((rd_T49 t416 x22_2).f2) < 1) = false := decide_eq_false c46
                 clear c46
                 by_cases c47 : ((rd_T49 t416 x22_2).f2) > ((rd_T49 t416 x22_2).f1)
                 ·rw [if_pos c47] at H
                  have c47b0 : decide (((rd_T49 t416 x22_2).f1) < ((rd_T49 t416 x22_2).f2)) = true := decide_eq_true c47
                  clear c47
                  as_aux_lemma =>
                   exact absurd ((Option.some.inj H).trans HQ_.out) (by decide)
                 ·rw [if_neg c47] at H
                  have c47b0 : decide (((rd_T49 t416 x22_2).f1) < ((rd_T49 t416 x22_2).f2)) = false := decide_eq_false c47
                  clear c47
                  by_cases c48 : 0 ≤ ((rd_T49 t416 x22_2).f0)
                  ·rw [if_pos c48] at H
                   have c48b0 : decide (0 ≤ ((rd_T49 t416 x22_2).f0)) = true := decide_eq_true c48
                   clear c48
                   by_cases c49 : ((rd_T49 t416 x22_2).f0) < ((l0.take ((ji4) : Int).toNat).length : Int)
                   ·rw [if_pos c49] at H
                    have c49b0 : decide (((rd_T49 t416 x22_2).f0) < ((l0.take ((ji4) : Int).toNat).length : Int)) = true := decide_eq_true c49
                    (try (have c49b0z := c49b0; (try rw [show (l0.take ((ji4) : Int).toNat).length = (ji4).toNat from (by rw [List.length_take]; have h_ : ((ji4) : Int) ≤ (l0.length : Int) := (by first | exact of_decide_eq_true (by first | (with_reducible assumption) | assumption) | (rw [← hji4]; unfold mn; split <;> omega)); omega)] at c49b0z)))
                    (try (have c49b0w := c49b0z; rw [Int.ofNat_toNat] at c49b0w))
                    clear c49
                    by_cases c50 : ((rd_T49 t416 x22_2).f0) < (y407.length : Int)
                    ·rw [if_pos c50] at H
                     have c50b0 : decide (((rd_T49 t416 x22_2).f0) < (y407.length : Int)) = true := decide_eq_true c50
                     clear c50
                     by_cases c51 : ((rdOf false (l0.take ((ji4) : Int).toNat) ((rd_T49 t416 x22_2).f0)) == (rdOf false y407 ((rd_T49 t416 x22_2).f0))) = true
                     ·rw [if_pos c51] at H
                      have c51b0 : ((rdOf false (l0.take ((ji4) : Int).toNat) ((rd_T49 t416 x22_2).f0)) == (rdOf false y407 ((rd_T49 t416 x22_2).f0))) = true := c51
                      (try (have c51b1 : decide ((rdOf false (l0.take ((ji4) : Int).toNat) ((rd_T49 t416 x22_2).f0)) = (rdOf false y407 ((rd_T49 t416 x22_2).f0))) = true := by simpa using c51))
                      (try (have c51b2 : ((rdOf false (l0.take ((ji4) : Int).toNat) ((rd_T49 t416 x22_2).f0)) == (rdOf false y407 ((rd_T49 t416 x22_2).f0))) = true := by simpa using c51))
                      clear c51
                      as_aux_lemma =>
                       exact absurd ((Option.some.inj H).trans HQ_.out) (by decide)
                     ·rw [if_neg c51] at H
                      have c51b0 : ((rdOf false (l0.take ((ji4) : Int).toNat) ((rd_T49 t416 x22_2).f0)) == (rdOf false y407 ((rd_T49 t416 x22_2).f0))) = false := by simpa using c51
                      (try (have c51b1 : decide ((rdOf false (l0.take ((ji4) : Int).toNat) ((rd_T49 t416 x22_2).f0)) = (rdOf false y407 ((rd_T49 t416 x22_2).f0))) = false := by simpa using c51))
                      (try (have c51b2 : ((rdOf false (l0.take ((ji4) : Int).toNat) ((rd_T49 t416 x22_2).f0)) == (rdOf false y407 ((rd_T49 t416 x22_2).f0))) = false := by simpa using c51))
                      (try (have c51b3 : ¬ ((rdOf false (l0.take ((ji4) : Int).toNat) ((rd_T49 t416 x22_2).f0)) = (rdOf false y407 ((rd_T49 t416 x22_2).f0))) := by simpa using c51))
                      clear c51
                      obtain ⟨ji52, hji52⟩ : ∃ j_ : Int, (wrap64 ((wrap64 (((rd_T49 t416 x22_2).f0) + ((rd_T49 t416 x22_2).f1))) - 1)) = j_ := ⟨_, rfl⟩
                      replace H : (if 0 ≤ (ji52) then (if (ji52) < ((l0.take ((ji4) : Int).toNat).length : Int) then (if (ji52) < (y407.length : Int) then (if ((rdOf false (l0.take ((ji4) : Int).toNat) (ji52)) == (rdOf false y407 (ji52))) = true then (some false) else (foghornlaw30_MeterRuns.l0 k2 (l0.take ((ji4) : Int).toNat) y407 (Int.tmod (wrap64 (a2)) 40) t410 t416 (wrap64 (x20_2 + ((rd_T49 t416 x22_2).f2))) (wrap64 (((rd_T49 t416 x22_2).f0) + ((rd_T49 t416 x22_2).f1))) (wrap64 (x22_2 + 1)))) else (none)) else (none)) else (none)) = some r := by first | (rw [hji52] at H; exact H) | (simp only [hji52] at H ⊢; exact H)
                      have hji52w : (IntKind.i64.wrap ((wrap64 (((rd_T49 t416 x22_2).f0) + ((rd_T49 t416 x22_2).f1))) - 1)) = ji52 := (i64_w _).trans hji52
                      by_cases c53 : 0 ≤ (ji52)
                      ·rw [if_pos c53] at H
                       have c53b0 : decide (0 ≤ (ji52)) = true := decide_eq_true c53
                       clear c53
                       by_cases c54 : (ji52) < ((l0.take ((ji4) : Int).toNat).length : Int)
                       ·rw [if_pos c54] at H
                        have c54b0 : decide ((ji52) < ((l0.take ((ji4) : Int).toNat).length : Int)) = true := decide_eq_true c54
                        (try (have c54b0z := c54b0; (try rw [show (l0.take ((ji4) : Int).toNat).length = (ji4).toNat from (by rw [List.length_take]; have h_ : ((ji4) : Int) ≤ (l0.length : Int) := (by first | exact of_decide_eq_true (by first | (with_reducible assumption) | assumption) | (rw [← hji4]; unfold mn; split <;> omega)); omega)] at c54b0z)))
                        (try (have c54b0w := c54b0z; rw [Int.ofNat_toNat] at c54b0w))
                        clear c54
                        by_cases c55 : (ji52) < (y407.length : Int)
                        ·rw [if_pos c55] at H
                         have c55b0 : decide ((ji52) < (y407.length : Int)) = true := decide_eq_true c55
                         clear c55
                         by_cases c56 : ((rdOf false (l0.take ((ji4) : Int).toNat) (ji52)) == (rdOf false y407 (ji52))) = true
                         ·rw [if_pos c56] at H
                          have c56b0 : ((rdOf false (l0.take ((ji4) : Int).toNat) (ji52)) == (rdOf false y407 (ji52))) = true := c56
                          (try (have c56b1 : decide ((rdOf false (l0.take ((ji4) : Int).toNat) (ji52)) = (rdOf false y407 (ji52))) = true := by simpa using c56))
                          (try (have c56b2 : ((rdOf false (l0.take ((ji4) : Int).toNat) (ji52)) == (rdOf false y407 (ji52))) = true := by simpa using c56))
                          clear c56
                          as_aux_lemma =>
                           exact absurd ((Option.some.inj H).trans HQ_.out) (by decide)
                         ·rw [if_neg c56] at H
                          have c56b0 : ((rdOf false (l0.take ((ji4) : Int).toNat) (ji52)) == (rdOf false y407 (ji52))) = false := by simpa using c56
                          (try (have c56b1 : decide ((rdOf false (l0.take ((ji4) : Int).toNat) (ji52)) = (rdOf false y407 (ji52))) = false := by simpa using c56))
                          (try (have c56b2 : ((rdOf false (l0.take ((ji4) : Int).toNat) (ji52)) == (rdOf false y407 (ji52))) = false := by simpa using c56))
                          (try (have c56b3 : ¬ ((rdOf false (l0.take ((ji4) : Int).toNat) (ji52)) = (rdOf false y407 (ji52))) := by simpa using c56))
                          clear c56
                          as_aux_lemma =>
                           have H' := Aside0.mk H
                           clear H
                           obtain ⟨Ao57, co57, eo57⟩ := Kd.R_slice HO_16.out
                           subst eo57
                           have p425 : 0 ≤ (x22_2 : Int) := of_decide_eq_true (by first | (with_reducible assumption) | assumption)
                           have q425 : x22_2 < (t416.length : Int) := of_decide_eq_true (by first | (with_reducible assumption) | assumption)
                           obtain ⟨ad425, e425, hx425_0, hx425_1, hx425_2⟩ := at_T49 (Kd.R_reads' HO_16.out).2.2 x22_2 p425 q425
                           cases e425
                           replace p425 := eq_true p425
                           replace q425 := eq_true q425
                           go_wp2_with (first | ((with_reducible refine gate_dst (N := 23) rfl ?_); (try (refine gate_guard (by rfl) ?_; dsimp only)); refine box_event ?hg (N := 23) ?hd (cs := #[.int .i64 0, .int .i64 0, .int .i64 0]) (t := 49) ?hr ?_; (case hd => rfl); (case hg => rfl); (case hr => first | (go_simp; done) | (go_simp; rfl)); intro gb426 hg w58 hbox hb; have n0_ := Aside0.mk (Kd.R_below (by (with_reducible repeat (first | apply Kd.R_alloc | apply Kd.R_drewN | apply Kd.R_drew)); exact HO_8.out) hb); have n1_ := Aside0.mk (Kd.R_below (Kd.R_elderB (by (with_reducible repeat (first | apply Kd.R_alloc | apply Kd.R_drewN | apply Kd.R_drew)); exact HO_16.out) gb426 (Nat.le_of_eq hg.symm)) hb); have n2_ := Aside0.mk (below_step (by repeat (first | (with_reducible first | exact HB.out | apply below_alloc | apply pw_below_drewN | apply below_drew1) | exact HB.out)) hb); have n3_ := Aside0.mk (hbox); have n4_ := Aside0.mk ((by rw [hg]; exact (below_size (by repeat (first | (with_reducible first | exact HB.out | apply below_alloc | apply pw_below_drewN | apply below_drew1) | exact HB.out))) : w.heap.size ≤ gb426)); have n5_ := Aside0.mk ((by rw [hg]; exact (below_size (by repeat (first | (with_reducible first | exact HB.out | apply below_alloc | apply pw_below_drewN | apply below_drew1) | exact HB.out))) : w.heap.size ≤ gb426)); clear HO_8; clear HO_16; clear HB; have HO_8 := n0_; have HO_16 := n1_; have HB := n2_; have BK426 := n3_; have GW426 := n4_; have GE426 := n5_; clear n0_ n1_ n2_ n3_ n4_ n5_; clear hb hbox hg; have hcz59_0 : w58.cell? ⟨gb426, 0, none⟩ = some (.int .i64 0) := (blk_cell BK426.out 0).trans rfl; have hcz59_1 : w58.cell? ⟨gb426, 1, none⟩ = some (.int .i64 0) := (blk_cell BK426.out 1).trans rfl; have hcz59_2 : w58.cell? ⟨gb426, 2, none⟩ = some (.int .i64 0) := (blk_cell BK426.out 2).trans rfl; have hfz59_0 := blk_frozen BK426.out 0; have hfz59_1 := blk_frozen BK426.out 1; have hfz59_2 := blk_frozen BK426.out 2; have p427 : 0 ≤ (((rd_T49 t416 x22_2).f0) : Int) := of_decide_eq_true (by first | (with_reducible assumption) | assumption); have q427 : ((rd_T49 t416 x22_2).f0) < ((l0.take ((ji4) : Int).toNat).length : Int) := of_decide_eq_true (by first | (with_reducible assumption) | assumption); obtain ⟨ad427, e427, hx427_0⟩ := Kd.at_bool HR403.out ((rd_T49 t416 x22_2).f0) p427 q427; cases e427; have hn427_0 : ad427.block ≠ gb426 := Nat.ne_of_lt (Nat.lt_of_lt_of_le (by have := World.block_lt_of_cell? _ _ hx427_0; first | rwa [add_block] at this | exact this) GW426.out); have hn427_1 : ad427.block ≠ gb426 := Nat.ne_of_lt (Nat.lt_of_lt_of_le (by have := World.block_lt_of_cell? _ _ hx427_0; first | rwa [add_block] at this | exact this) GW426.out); have hn427_2 : ad427.block ≠ gb426 := Nat.ne_of_lt (Nat.lt_of_lt_of_le (by have := World.block_lt_of_cell? _ _ hx427_0; first | rwa [add_block] at this | exact this) GW426.out); replace hx427_0 := (HB.out.cell (World.block_lt_of_cell? w _ hx427_0)).trans hx427_0; replace hx427_0 := (cell_far (p := ⟨gb426, 0, none⟩) (by first | (rw [add_block]; exact hn427_0) | (show (Addr.add _ _).block ≠ _; rw [add_block]; exact hn427_0) | exact hn427_0) (.int .i64 ((rd_T49 t416 x22_2).f0))).trans hx427_0; replace hx427_0 := (cell_far (p := ⟨gb426, 1, none⟩) (by first | (rw [add_block]; exact hn427_1) | (show (Addr.add _ _).block ≠ _; rw [add_block]; exact hn427_1) | exact hn427_1) (.int .i64 ((rd_T49 t416 x22_2).f1))).trans hx427_0; replace hx427_0 := (cell_far (p := ⟨gb426, 2, none⟩) (by first | (rw [add_block]; exact hn427_2) | (show (Addr.add _ _).block ≠ _; rw [add_block]; exact hn427_2) | exact hn427_2) (.int .i64 ((rd_T49 t416 x22_2).f2))).trans hx427_0; (try have hy427_0 := fun (n_ : Nat) => (show (((((w58.drewN n_).setCell ⟨gb426, 0, none⟩ (.int .i64 ((rd_T49 t416 x22_2).f0))).setCell ⟨gb426, 1, none⟩ (.int .i64 ((rd_T49 t416 x22_2).f1))).setCell ⟨gb426, 2, none⟩ (.int .i64 ((rd_T49 t416 x22_2).f2)))).cell? _ = some _ from hx427_0)); clear hn427_0; clear hn427_1; clear hn427_2; replace p427 := eq_true p427; replace q427 := eq_true q427; (try (have q427z := q427; rw [show (l0.take ((ji4) : Int).toNat).length = (ji4).toNat from (by rw [List.length_take]; have h_ : ((ji4) : Int) ≤ (l0.length : Int) := (by first | exact of_decide_eq_true (by first | (with_reducible assumption) | assumption) | (rw [← hji4]; unfold mn; split <;> omega)); omega)] at q427z; (try (have q427w := q427z; rw [Int.ofNat_toNat] at q427w)))); have p428 : 0 ≤ (((rd_T49 t416 x22_2).f0) : Int) := of_decide_eq_true (by first | (with_reducible assumption) | assumption); have q428 : ((rd_T49 t416 x22_2).f0) < (y407.length : Int) := of_decide_eq_true (by first | (with_reducible assumption) | assumption); obtain ⟨ad428, e428, hx428_0⟩ := Kd.at_bool (Kd.R_reads' HO_8.out).2.2 ((rd_T49 t416 x22_2).f0) p428 q428; cases e428; have hn428_0 : ad428.block ≠ gb426 := Kd.own_blk (Kd.R_ne HO_8.out BK426.out (by decide)); have hn428_1 : ad428.block ≠ gb426 := Kd.own_blk (Kd.R_ne HO_8.out BK426.out (by decide)); have hn428_2 : ad428.block ≠ gb426 := Kd.own_blk (Kd.R_ne HO_8.out BK426.out (by decide)); replace hx428_0 := (cell_far (p := ⟨gb426, 0, none⟩) (by first | (rw [add_block]; exact hn428_0) | (show (Addr.add _ _).block ≠ _; rw [add_block]; exact hn428_0) | exact hn428_0) (.int .i64 ((rd_T49 t416 x22_2).f0))).trans hx428_0; replace hx428_0 := (cell_far (p := ⟨gb426, 1, none⟩) (by first | (rw [add_block]; exact hn428_1) | (show (Addr.add _ _).block ≠ _; rw [add_block]; exact hn428_1) | exact hn428_1) (.int .i64 ((rd_T49 t416 x22_2).f1))).trans hx428_0; replace hx428_0 := (cell_far (p := ⟨gb426, 2, none⟩) (by first | (rw [add_block]; exact hn428_2) | (show (Addr.add _ _).block ≠ _; rw [add_block]; exact hn428_2) | exact hn428_2) (.int .i64 ((rd_T49 t416 x22_2).f2))).trans hx428_0; (try have hy428_0 := fun (n_ : Nat) => (show (((((w58.drewN n_).setCell ⟨gb426, 0, none⟩ (.int .i64 ((rd_T49 t416 x22_2).f0))).setCell ⟨gb426, 1, none⟩ (.int .i64 ((rd_T49 t416 x22_2).f1))).setCell ⟨gb426, 2, none⟩ (.int .i64 ((rd_T49 t416 x22_2).f2)))).cell? _ = some _ from hx428_0)); clear hn428_0; clear hn428_1; clear hn428_2; replace p428 := eq_true p428; replace q428 := eq_true q428; have p429 : 0 ≤ ((ji52) : Int) := of_decide_eq_true (by first | (with_reducible assumption) | assumption); have q429 : (ji52) < ((l0.take ((ji4) : Int).toNat).length : Int) := of_decide_eq_true (by first | (with_reducible assumption) | assumption); obtain ⟨ad429, e429, hx429_0⟩ := Kd.at_bool HR403.out (ji52) p429 q429; obtain rfl : ad427 = ad429 := (by injection e429); have hn429_0 : ad427.block ≠ gb426 := Nat.ne_of_lt (Nat.lt_of_lt_of_le (by have := World.block_lt_of_cell? _ _ hx429_0; first | rwa [add_block] at this | exact this) GW426.out); have hn429_1 : ad427.block ≠ gb426 := Nat.ne_of_lt (Nat.lt_of_lt_of_le (by have := World.block_lt_of_cell? _ _ hx429_0; first | rwa [add_block] at this | exact this) GW426.out); have hn429_2 : ad427.block ≠ gb426 := Nat.ne_of_lt (Nat.lt_of_lt_of_le (by have := World.block_lt_of_cell? _ _ hx429_0; first | rwa [add_block] at this | exact this) GW426.out); replace hx429_0 := (HB.out.cell (World.block_lt_of_cell? w _ hx429_0)).trans hx429_0; replace hx429_0 := (cell_far (p := ⟨gb426, 0, none⟩) (by first | (rw [add_block]; exact hn429_0) | (show (Addr.add _ _).block ≠ _; rw [add_block]; exact hn429_0) | exact hn429_0) (.int .i64 ((rd_T49 t416 x22_2).f0))).trans hx429_0; replace hx429_0 := (cell_far (p := ⟨gb426, 1, none⟩) (by first | (rw [add_block]; exact hn429_1) | (show (Addr.add _ _).block ≠ _; rw [add_block]; exact hn429_1) | exact hn429_1) (.int .i64 ((rd_T49 t416 x22_2).f1))).trans hx429_0; replace hx429_0 := (cell_far (p := ⟨gb426, 2, none⟩) (by first | (rw [add_block]; exact hn429_2) | (show (Addr.add _ _).block ≠ _; rw [add_block]; exact hn429_2) | exact hn429_2) (.int .i64 ((rd_T49 t416 x22_2).f2))).trans hx429_0; (try have hy429_0 := fun (n_ : Nat) => (show (((((w58.drewN n_).setCell ⟨gb426, 0, none⟩ (.int .i64 ((rd_T49 t416 x22_2).f0))).setCell ⟨gb426, 1, none⟩ (.int .i64 ((rd_T49 t416 x22_2).f1))).setCell ⟨gb426, 2, none⟩ (.int .i64 ((rd_T49 t416 x22_2).f2)))).cell? _ = some _ from hx429_0)); clear hn429_0; clear hn429_1; clear hn429_2; replace p429 := eq_true p429; replace q429 := eq_true q429; (try (have q429z := q429; rw [show (l0.take ((ji4) : Int).toNat).length = (ji4).toNat from (by rw [List.length_take]; have h_ : ((ji4) : Int) ≤ (l0.length : Int) := (by first | exact of_decide_eq_true (by first | (with_reducible assumption) | assumption) | (rw [← hji4]; unfold mn; split <;> omega)); omega)] at q429z; (try (have q429w := q429z; rw [Int.ofNat_toNat] at q429w)))); have p430 : 0 ≤ ((ji52) : Int) := of_decide_eq_true (by first | (with_reducible assumption) | assumption); have q430 : (ji52) < (y407.length : Int) := of_decide_eq_true (by first | (with_reducible assumption) | assumption); obtain ⟨ad430, e430, hx430_0⟩ := Kd.at_bool (Kd.R_reads' HO_8.out).2.2 (ji52) p430 q430; obtain rfl : ad428 = ad430 := (by injection e430); have hn430_0 : ad428.block ≠ gb426 := Kd.own_blk (Kd.R_ne HO_8.out BK426.out (by decide)); have hn430_1 : ad428.block ≠ gb426 := Kd.own_blk (Kd.R_ne HO_8.out BK426.out (by decide)); have hn430_2 : ad428.block ≠ gb426 := Kd.own_blk (Kd.R_ne HO_8.out BK426.out (by decide)); replace hx430_0 := (cell_far (p := ⟨gb426, 0, none⟩) (by first | (rw [add_block]; exact hn430_0) | (show (Addr.add _ _).block ≠ _; rw [add_block]; exact hn430_0) | exact hn430_0) (.int .i64 ((rd_T49 t416 x22_2).f0))).trans hx430_0; replace hx430_0 := (cell_far (p := ⟨gb426, 1, none⟩) (by first | (rw [add_block]; exact hn430_1) | (show (Addr.add _ _).block ≠ _; rw [add_block]; exact hn430_1) | exact hn430_1) (.int .i64 ((rd_T49 t416 x22_2).f1))).trans hx430_0; replace hx430_0 := (cell_far (p := ⟨gb426, 2, none⟩) (by first | (rw [add_block]; exact hn430_2) | (show (Addr.add _ _).block ≠ _; rw [add_block]; exact hn430_2) | exact hn430_2) (.int .i64 ((rd_T49 t416 x22_2).f2))).trans hx430_0; (try have hy430_0 := fun (n_ : Nat) => (show (((((w58.drewN n_).setCell ⟨gb426, 0, none⟩ (.int .i64 ((rd_T49 t416 x22_2).f0))).setCell ⟨gb426, 1, none⟩ (.int .i64 ((rd_T49 t416 x22_2).f1))).setCell ⟨gb426, 2, none⟩ (.int .i64 ((rd_T49 t416 x22_2).f2)))).cell? _ = some _ from hx430_0)); clear hn430_0; clear hn430_1; clear hn430_2; replace p430 := eq_true p430; replace q430 := eq_true q430))
                           repeat (go_quiet (first | ((with_reducible refine gate_dst (N := 23) rfl ?_); (try (refine gate_guard (by rfl) ?_; dsimp only)); refine box_event ?hg (N := 23) ?hd (cs := #[.int .i64 0, .int .i64 0, .int .i64 0]) (t := 49) ?hr ?_; (case hd => rfl); (case hg => rfl); (case hr => first | (go_simp; done) | (go_simp; rfl)); intro gb426 hg w58 hbox hb; have n0_ := Aside0.mk (Kd.R_below (by (with_reducible repeat (first | apply Kd.R_alloc | apply Kd.R_drewN | apply Kd.R_drew)); exact HO_8.out) hb); have n1_ := Aside0.mk (Kd.R_below (Kd.R_elderB (by (with_reducible repeat (first | apply Kd.R_alloc | apply Kd.R_drewN | apply Kd.R_drew)); exact HO_16.out) gb426 (Nat.le_of_eq hg.symm)) hb); have n2_ := Aside0.mk (below_step (by repeat (first | (with_reducible first | exact HB.out | apply below_alloc | apply pw_below_drewN | apply below_drew1) | exact HB.out)) hb); have n3_ := Aside0.mk (hbox); have n4_ := Aside0.mk ((by rw [hg]; exact (below_size (by repeat (first | (with_reducible first | exact HB.out | apply below_alloc | apply pw_below_drewN | apply below_drew1) | exact HB.out))) : w.heap.size ≤ gb426)); have n5_ := Aside0.mk ((by rw [hg]; exact (below_size (by repeat (first | (with_reducible first | exact HB.out | apply below_alloc | apply pw_below_drewN | apply below_drew1) | exact HB.out))) : w.heap.size ≤ gb426)); clear HO_8; clear HO_16; clear HB; have HO_8 := n0_; have HO_16 := n1_; have HB := n2_; have BK426 := n3_; have GW426 := n4_; have GE426 := n5_; clear n0_ n1_ n2_ n3_ n4_ n5_; clear hb hbox hg; have hcz59_0 : w58.cell? ⟨gb426, 0, none⟩ = some (.int .i64 0) := (blk_cell BK426.out 0).trans rfl; have hcz59_1 : w58.cell? ⟨gb426, 1, none⟩ = some (.int .i64 0) := (blk_cell BK426.out 1).trans rfl; have hcz59_2 : w58.cell? ⟨gb426, 2, none⟩ = some (.int .i64 0) := (blk_cell BK426.out 2).trans rfl; have hfz59_0 := blk_frozen BK426.out 0; have hfz59_1 := blk_frozen BK426.out 1; have hfz59_2 := blk_frozen BK426.out 2; have p427 : 0 ≤ (((rd_T49 t416 x22_2).f0) : Int) := of_decide_eq_true (by first | (with_reducible assumption) | assumption); have q427 : ((rd_T49 t416 x22_2).f0) < ((l0.take ((ji4) : Int).toNat).length : Int) := of_decide_eq_true (by first | (with_reducible assumption) | assumption); obtain ⟨ad427, e427, hx427_0⟩ := Kd.at_bool HR403.out ((rd_T49 t416 x22_2).f0) p427 q427; cases e427; have hn427_0 : ad427.block ≠ gb426 := Nat.ne_of_lt (Nat.lt_of_lt_of_le (by have := World.block_lt_of_cell? _ _ hx427_0; first | rwa [add_block] at this | exact this) GW426.out); have hn427_1 : ad427.block ≠ gb426 := Nat.ne_of_lt (Nat.lt_of_lt_of_le (by have := World.block_lt_of_cell? _ _ hx427_0; first | rwa [add_block] at this | exact this) GW426.out); have hn427_2 : ad427.block ≠ gb426 := Nat.ne_of_lt (Nat.lt_of_lt_of_le (by have := World.block_lt_of_cell? _ _ hx427_0; first | rwa [add_block] at this | exact this) GW426.out); replace hx427_0 := (HB.out.cell (World.block_lt_of_cell? w _ hx427_0)).trans hx427_0; replace hx427_0 := (cell_far (p := ⟨gb426, 0, none⟩) (by first | (rw [add_block]; exact hn427_0) | (show (Addr.add _ _).block ≠ _; rw [add_block]; exact hn427_0) | exact hn427_0) (.int .i64 ((rd_T49 t416 x22_2).f0))).trans hx427_0; replace hx427_0 := (cell_far (p := ⟨gb426, 1, none⟩) (by first | (rw [add_block]; exact hn427_1) | (show (Addr.add _ _).block ≠ _; rw [add_block]; exact hn427_1) | exact hn427_1) (.int .i64 ((rd_T49 t416 x22_2).f1))).trans hx427_0; replace hx427_0 := (cell_far (p := ⟨gb426, 2, none⟩) (by first | (rw [add_block]; exact hn427_2) | (show (Addr.add _ _).block ≠ _; rw [add_block]; exact hn427_2) | exact hn427_2) (.int .i64 ((rd_T49 t416 x22_2).f2))).trans hx427_0; (try have hy427_0 := fun (n_ : Nat) => (show (((((w58.drewN n_).setCell ⟨gb426, 0, none⟩ (.int .i64 ((rd_T49 t416 x22_2).f0))).setCell ⟨gb426, 1, none⟩ (.int .i64 ((rd_T49 t416 x22_2).f1))).setCell ⟨gb426, 2, none⟩ (.int .i64 ((rd_T49 t416 x22_2).f2)))).cell? _ = some _ from hx427_0)); clear hn427_0; clear hn427_1; clear hn427_2; replace p427 := eq_true p427; replace q427 := eq_true q427; (try (have q427z := q427; rw [show (l0.take ((ji4) : Int).toNat).length = (ji4).toNat from (by rw [List.length_take]; have h_ : ((ji4) : Int) ≤ (l0.length : Int) := (by first | exact of_decide_eq_true (by first | (with_reducible assumption) | assumption) | (rw [← hji4]; unfold mn; split <;> omega)); omega)] at q427z; (try (have q427w := q427z; rw [Int.ofNat_toNat] at q427w)))); have p428 : 0 ≤ (((rd_T49 t416 x22_2).f0) : Int) := of_decide_eq_true (by first | (with_reducible assumption) | assumption); have q428 : ((rd_T49 t416 x22_2).f0) < (y407.length : Int) := of_decide_eq_true (by first | (with_reducible assumption) | assumption); obtain ⟨ad428, e428, hx428_0⟩ := Kd.at_bool (Kd.R_reads' HO_8.out).2.2 ((rd_T49 t416 x22_2).f0) p428 q428; cases e428; have hn428_0 : ad428.block ≠ gb426 := Kd.own_blk (Kd.R_ne HO_8.out BK426.out (by decide)); have hn428_1 : ad428.block ≠ gb426 := Kd.own_blk (Kd.R_ne HO_8.out BK426.out (by decide)); have hn428_2 : ad428.block ≠ gb426 := Kd.own_blk (Kd.R_ne HO_8.out BK426.out (by decide)); replace hx428_0 := (cell_far (p := ⟨gb426, 0, none⟩) (by first | (rw [add_block]; exact hn428_0) | (show (Addr.add _ _).block ≠ _; rw [add_block]; exact hn428_0) | exact hn428_0) (.int .i64 ((rd_T49 t416 x22_2).f0))).trans hx428_0; replace hx428_0 := (cell_far (p := ⟨gb426, 1, none⟩) (by first | (rw [add_block]; exact hn428_1) | (show (Addr.add _ _).block ≠ _; rw [add_block]; exact hn428_1) | exact hn428_1) (.int .i64 ((rd_T49 t416 x22_2).f1))).trans hx428_0; replace hx428_0 := (cell_far (p := ⟨gb426, 2, none⟩) (by first | (rw [add_block]; exact hn428_2) | (show (Addr.add _ _).block ≠ _; rw [add_block]; exact hn428_2) | exact hn428_2) (.int .i64 ((rd_T49 t416 x22_2).f2))).trans hx428_0; (try have hy428_0 := fun (n_ : Nat) => (show (((((w58.drewN n_).setCell ⟨gb426, 0, none⟩ (.int .i64 ((rd_T49 t416 x22_2).f0))).setCell ⟨gb426, 1, none⟩ (.int .i64 ((rd_T49 t416 x22_2).f1))).setCell ⟨gb426, 2, none⟩ (.int .i64 ((rd_T49 t416 x22_2).f2)))).cell? _ = some _ from hx428_0)); clear hn428_0; clear hn428_1; clear hn428_2; replace p428 := eq_true p428; replace q428 := eq_true q428; have p429 : 0 ≤ ((ji52) : Int) := of_decide_eq_true (by first | (with_reducible assumption) | assumption); have q429 : (ji52) < ((l0.take ((ji4) : Int).toNat).length : Int) := of_decide_eq_true (by first | (with_reducible assumption) | assumption); obtain ⟨ad429, e429, hx429_0⟩ := Kd.at_bool HR403.out (ji52) p429 q429; obtain rfl : ad427 = ad429 := (by injection e429); have hn429_0 : ad427.block ≠ gb426 := Nat.ne_of_lt (Nat.lt_of_lt_of_le (by have := World.block_lt_of_cell? _ _ hx429_0; first | rwa [add_block] at this | exact this) GW426.out); have hn429_1 : ad427.block ≠ gb426 := Nat.ne_of_lt (Nat.lt_of_lt_of_le (by have := World.block_lt_of_cell? _ _ hx429_0; first | rwa [add_block] at this | exact this) GW426.out); have hn429_2 : ad427.block ≠ gb426 := Nat.ne_of_lt (Nat.lt_of_lt_of_le (by have := World.block_lt_of_cell? _ _ hx429_0; first | rwa [add_block] at this | exact this) GW426.out); replace hx429_0 := (HB.out.cell (World.block_lt_of_cell? w _ hx429_0)).trans hx429_0; replace hx429_0 := (cell_far (p := ⟨gb426, 0, none⟩) (by first | (rw [add_block]; exact hn429_0) | (show (Addr.add _ _).block ≠ _; rw [add_block]; exact hn429_0) | exact hn429_0) (.int .i64 ((rd_T49 t416 x22_2).f0))).trans hx429_0; replace hx429_0 := (cell_far (p := ⟨gb426, 1, none⟩) (by first | (rw [add_block]; exact hn429_1) | (show (Addr.add _ _).block ≠ _; rw [add_block]; exact hn429_1) | exact hn429_1) (.int .i64 ((rd_T49 t416 x22_2).f1))).trans hx429_0; replace hx429_0 := (cell_far (p := ⟨gb426, 2, none⟩) (by first | (rw [add_block]; exact hn429_2) | (show (Addr.add _ _).block ≠ _; rw [add_block]; exact hn429_2) | exact hn429_2) (.int .i64 ((rd_T49 t416 x22_2).f2))).trans hx429_0; (try have hy429_0 := fun (n_ : Nat) => (show (((((w58.drewN n_).setCell ⟨gb426, 0, none⟩ (.int .i64 ((rd_T49 t416 x22_2).f0))).setCell ⟨gb426, 1, none⟩ (.int .i64 ((rd_T49 t416 x22_2).f1))).setCell ⟨gb426, 2, none⟩ (.int .i64 ((rd_T49 t416 x22_2).f2)))).cell? _ = some _ from hx429_0)); clear hn429_0; clear hn429_1; clear hn429_2; replace p429 := eq_true p429; replace q429 := eq_true q429; (try (have q429z := q429; rw [show (l0.take ((ji4) : Int).toNat).length = (ji4).toNat from (by rw [List.length_take]; have h_ : ((ji4) : Int) ≤ (l0.length : Int) := (by first | exact of_decide_eq_true (by first | (with_reducible assumption) | assumption) | (rw [← hji4]; unfold mn; split <;> omega)); omega)] at q429z; (try (have q429w := q429z; rw [Int.ofNat_toNat] at q429w)))); have p430 : 0 ≤ ((ji52) : Int) := of_decide_eq_true (by first | (with_reducible assumption) | assumption); have q430 : (ji52) < (y407.length : Int) := of_decide_eq_true (by first | (with_reducible assumption) | assumption); obtain ⟨ad430, e430, hx430_0⟩ := Kd.at_bool (Kd.R_reads' HO_8.out).2.2 (ji52) p430 q430; obtain rfl : ad428 = ad430 := (by injection e430); have hn430_0 : ad428.block ≠ gb426 := Kd.own_blk (Kd.R_ne HO_8.out BK426.out (by decide)); have hn430_1 : ad428.block ≠ gb426 := Kd.own_blk (Kd.R_ne HO_8.out BK426.out (by decide)); have hn430_2 : ad428.block ≠ gb426 := Kd.own_blk (Kd.R_ne HO_8.out BK426.out (by decide)); replace hx430_0 := (cell_far (p := ⟨gb426, 0, none⟩) (by first | (rw [add_block]; exact hn430_0) | (show (Addr.add _ _).block ≠ _; rw [add_block]; exact hn430_0) | exact hn430_0) (.int .i64 ((rd_T49 t416 x22_2).f0))).trans hx430_0; replace hx430_0 := (cell_far (p := ⟨gb426, 1, none⟩) (by first | (rw [add_block]; exact hn430_1) | (show (Addr.add _ _).block ≠ _; rw [add_block]; exact hn430_1) | exact hn430_1) (.int .i64 ((rd_T49 t416 x22_2).f1))).trans hx430_0; replace hx430_0 := (cell_far (p := ⟨gb426, 2, none⟩) (by first | (rw [add_block]; exact hn430_2) | (show (Addr.add _ _).block ≠ _; rw [add_block]; exact hn430_2) | exact hn430_2) (.int .i64 ((rd_T49 t416 x22_2).f2))).trans hx430_0; (try have hy430_0 := fun (n_ : Nat) => (show (((((w58.drewN n_).setCell ⟨gb426, 0, none⟩ (.int .i64 ((rd_T49 t416 x22_2).f0))).setCell ⟨gb426, 1, none⟩ (.int .i64 ((rd_T49 t416 x22_2).f1))).setCell ⟨gb426, 2, none⟩ (.int .i64 ((rd_T49 t416 x22_2).f2)))).cell? _ = some _ from hx430_0)); clear hn430_0; clear hn430_1; clear hn430_2; replace p430 := eq_true p430; replace q430 := eq_true q430)); try go_wp2_with (first | ((with_reducible refine gate_dst (N := 23) rfl ?_); (try (refine gate_guard (by rfl) ?_; dsimp only)); refine box_event ?hg (N := 23) ?hd (cs := #[.int .i64 0, .int .i64 0, .int .i64 0]) (t := 49) ?hr ?_; (case hd => rfl); (case hg => rfl); (case hr => first | (go_simp; done) | (go_simp; rfl)); intro gb426 hg w58 hbox hb; have n0_ := Aside0.mk (Kd.R_below (by (with_reducible repeat (first | apply Kd.R_alloc | apply Kd.R_drewN | apply Kd.R_drew)); exact HO_8.out) hb); have n1_ := Aside0.mk (Kd.R_below (Kd.R_elderB (by (with_reducible repeat (first | apply Kd.R_alloc | apply Kd.R_drewN | apply Kd.R_drew)); exact HO_16.out) gb426 (Nat.le_of_eq hg.symm)) hb); have n2_ := Aside0.mk (below_step (by repeat (first | (with_reducible first | exact HB.out | apply below_alloc | apply pw_below_drewN | apply below_drew1) | exact HB.out)) hb); have n3_ := Aside0.mk (hbox); have n4_ := Aside0.mk ((by rw [hg]; exact (below_size (by repeat (first | (with_reducible first | exact HB.out | apply below_alloc | apply pw_below_drewN | apply below_drew1) | exact HB.out))) : w.heap.size ≤ gb426)); have n5_ := Aside0.mk ((by rw [hg]; exact (below_size (by repeat (first | (with_reducible first | exact HB.out | apply below_alloc | apply pw_below_drewN | apply below_drew1) | exact HB.out))) : w.heap.size ≤ gb426)); clear HO_8; clear HO_16; clear HB; have HO_8 := n0_; have HO_16 := n1_; have HB := n2_; have BK426 := n3_; have GW426 := n4_; have GE426 := n5_; clear n0_ n1_ n2_ n3_ n4_ n5_; clear hb hbox hg; have hcz59_0 : w58.cell? ⟨gb426, 0, none⟩ = some (.int .i64 0) := (blk_cell BK426.out 0).trans rfl; have hcz59_1 : w58.cell? ⟨gb426, 1, none⟩ = some (.int .i64 0) := (blk_cell BK426.out 1).trans rfl; have hcz59_2 : w58.cell? ⟨gb426, 2, none⟩ = some (.int .i64 0) := (blk_cell BK426.out 2).trans rfl; have hfz59_0 := blk_frozen BK426.out 0; have hfz59_1 := blk_frozen BK426.out 1; have hfz59_2 := blk_frozen BK426.out 2; have p427 : 0 ≤ (((rd_T49 t416 x22_2).f0) : Int) := of_decide_eq_true (by first | (with_reducible assumption) | assumption); have q427 : ((rd_T49 t416 x22_2).f0) < ((l0.take ((ji4) : Int).toNat).length : Int) := of_decide_eq_true (by first | (with_reducible assumption) | assumption); obtain ⟨ad427, e427, hx427_0⟩ := Kd.at_bool HR403.out ((rd_T49 t416 x22_2).f0) p427 q427; cases e427; have hn427_0 : ad427.block ≠ gb426 := Nat.ne_of_lt (Nat.lt_of_lt_of_le (by have := World.block_lt_of_cell? _ _ hx427_0; first | rwa [add_block] at this | exact this) GW426.out); have hn427_1 : ad427.block ≠ gb426 := Nat.ne_of_lt (Nat.lt_of_lt_of_le (by have := World.block_lt_of_cell? _ _ hx427_0; first | rwa [add_block] at this | exact this) GW426.out); have hn427_2 : ad427.block ≠ gb426 := Nat.ne_of_lt (Nat.lt_of_lt_of_le (by have := World.block_lt_of_cell? _ _ hx427_0; first | rwa [add_block] at this | exact this) GW426.out); replace hx427_0 := (HB.out.cell (World.block_lt_of_cell? w _ hx427_0)).trans hx427_0; replace hx427_0 := (cell_far (p := ⟨gb426, 0, none⟩) (by first | (rw [add_block]; exact hn427_0) | (show (Addr.add _ _).block ≠ _; rw [add_block]; exact hn427_0) | exact hn427_0) (.int .i64 ((rd_T49 t416 x22_2).f0))).trans hx427_0; replace hx427_0 := (cell_far (p := ⟨gb426, 1, none⟩) (by first | (rw [add_block]; exact hn427_1) | (show (Addr.add _ _).block ≠ _; rw [add_block]; exact hn427_1) | exact hn427_1) (.int .i64 ((rd_T49 t416 x22_2).f1))).trans hx427_0; replace hx427_0 := (cell_far (p := ⟨gb426, 2, none⟩) (by first | (rw [add_block]; exact hn427_2) | (show (Addr.add _ _).block ≠ _; rw [add_block]; exact hn427_2) | exact hn427_2) (.int .i64 ((rd_T49 t416 x22_2).f2))).trans hx427_0; (try have hy427_0 := fun (n_ : Nat) => (show (((((w58.drewN n_).setCell ⟨gb426, 0, none⟩ (.int .i64 ((rd_T49 t416 x22_2).f0))).setCell ⟨gb426, 1, none⟩ (.int .i64 ((rd_T49 t416 x22_2).f1))).setCell ⟨gb426, 2, none⟩ (.int .i64 ((rd_T49 t416 x22_2).f2)))).cell? _ = some _ from hx427_0)); clear hn427_0; clear hn427_1; clear hn427_2; replace p427 := eq_true p427; replace q427 := eq_true q427; (try (have q427z := q427; rw [show (l0.take ((ji4) : Int).toNat).length = (ji4).toNat from (by rw [List.length_take]; have h_ : ((ji4) : Int) ≤ (l0.length : Int) := (by first | exact of_decide_eq_true (by first | (with_reducible assumption) | assumption) | (rw [← hji4]; unfold mn; split <;> omega)); omega)] at q427z; (try (have q427w := q427z; rw [Int.ofNat_toNat] at q427w)))); have p428 : 0 ≤ (((rd_T49 t416 x22_2).f0) : Int) := of_decide_eq_true (by first | (with_reducible assumption) | assumption); have q428 : ((rd_T49 t416 x22_2).f0) < (y407.length : Int) := of_decide_eq_true (by first | (with_reducible assumption) | assumption); obtain ⟨ad428, e428, hx428_0⟩ := Kd.at_bool (Kd.R_reads' HO_8.out).2.2 ((rd_T49 t416 x22_2).f0) p428 q428; cases e428; have hn428_0 : ad428.block ≠ gb426 := Kd.own_blk (Kd.R_ne HO_8.out BK426.out (by decide)); have hn428_1 : ad428.block ≠ gb426 := Kd.own_blk (Kd.R_ne HO_8.out BK426.out (by decide)); have hn428_2 : ad428.block ≠ gb426 := Kd.own_blk (Kd.R_ne HO_8.out BK426.out (by decide)); replace hx428_0 := (cell_far (p := ⟨gb426, 0, none⟩) (by first | (rw [add_block]; exact hn428_0) | (show (Addr.add _ _).block ≠ _; rw [add_block]; exact hn428_0) | exact hn428_0) (.int .i64 ((rd_T49 t416 x22_2).f0))).trans hx428_0; replace hx428_0 := (cell_far (p := ⟨gb426, 1, none⟩) (by first | (rw [add_block]; exact hn428_1) | (show (Addr.add _ _).block ≠ _; rw [add_block]; exact hn428_1) | exact hn428_1) (.int .i64 ((rd_T49 t416 x22_2).f1))).trans hx428_0; replace hx428_0 := (cell_far (p := ⟨gb426, 2, none⟩) (by first | (rw [add_block]; exact hn428_2) | (show (Addr.add _ _).block ≠ _; rw [add_block]; exact hn428_2) | exact hn428_2) (.int .i64 ((rd_T49 t416 x22_2).f2))).trans hx428_0; (try have hy428_0 := fun (n_ : Nat) => (show (((((w58.drewN n_).setCell ⟨gb426, 0, none⟩ (.int .i64 ((rd_T49 t416 x22_2).f0))).setCell ⟨gb426, 1, none⟩ (.int .i64 ((rd_T49 t416 x22_2).f1))).setCell ⟨gb426, 2, none⟩ (.int .i64 ((rd_T49 t416 x22_2).f2)))).cell? _ = some _ from hx428_0)); clear hn428_0; clear hn428_1; clear hn428_2; replace p428 := eq_true p428; replace q428 := eq_true q428; have p429 : 0 ≤ ((ji52) : Int) := of_decide_eq_true (by first | (with_reducible assumption) | assumption); have q429 : (ji52) < ((l0.take ((ji4) : Int).toNat).length : Int) := of_decide_eq_true (by first | (with_reducible assumption) | assumption); obtain ⟨ad429, e429, hx429_0⟩ := Kd.at_bool HR403.out (ji52) p429 q429; obtain rfl : ad427 = ad429 := (by injection e429); have hn429_0 : ad427.block ≠ gb426 := Nat.ne_of_lt (Nat.lt_of_lt_of_le (by have := World.block_lt_of_cell? _ _ hx429_0; first | rwa [add_block] at this | exact this) GW426.out); have hn429_1 : ad427.block ≠ gb426 := Nat.ne_of_lt (Nat.lt_of_lt_of_le (by have := World.block_lt_of_cell? _ _ hx429_0; first | rwa [add_block] at this | exact this) GW426.out); have hn429_2 : ad427.block ≠ gb426 := Nat.ne_of_lt (Nat.lt_of_lt_of_le (by have := World.block_lt_of_cell? _ _ hx429_0; first | rwa [add_block] at this | exact this) GW426.out); replace hx429_0 := (HB.out.cell (World.block_lt_of_cell? w _ hx429_0)).trans hx429_0; replace hx429_0 := (cell_far (p := ⟨gb426, 0, none⟩) (by first | (rw [add_block]; exact hn429_0) | (show (Addr.add _ _).block ≠ _; rw [add_block]; exact hn429_0) | exact hn429_0) (.int .i64 ((rd_T49 t416 x22_2).f0))).trans hx429_0; replace hx429_0 := (cell_far (p := ⟨gb426, 1, none⟩) (by first | (rw [add_block]; exact hn429_1) | (show (Addr.add _ _).block ≠ _; rw [add_block]; exact hn429_1) | exact hn429_1) (.int .i64 ((rd_T49 t416 x22_2).f1))).trans hx429_0; replace hx429_0 := (cell_far (p := ⟨gb426, 2, none⟩) (by first | (rw [add_block]; exact hn429_2) | (show (Addr.add _ _).block ≠ _; rw [add_block]; exact hn429_2) | exact hn429_2) (.int .i64 ((rd_T49 t416 x22_2).f2))).trans hx429_0; (try have hy429_0 := fun (n_ : Nat) => (show (((((w58.drewN n_).setCell ⟨gb426, 0, none⟩ (.int .i64 ((rd_T49 t416 x22_2).f0))).setCell ⟨gb426, 1, none⟩ (.int .i64 ((rd_T49 t416 x22_2).f1))).setCell ⟨gb426, 2, none⟩ (.int .i64 ((rd_T49 t416 x22_2).f2)))).cell? _ = some _ from hx429_0)); clear hn429_0; clear hn429_1; clear hn429_2; replace p429 := eq_true p429; replace q429 := eq_true q429; (try (have q429z := q429; rw [show (l0.take ((ji4) : Int).toNat).length = (ji4).toNat from (by rw [List.length_take]; have h_ : ((ji4) : Int) ≤ (l0.length : Int) := (by first | exact of_decide_eq_true (by first | (with_reducible assumption) | assumption) | (rw [← hji4]; unfold mn; split <;> omega)); omega)] at q429z; (try (have q429w := q429z; rw [Int.ofNat_toNat] at q429w)))); have p430 : 0 ≤ ((ji52) : Int) := of_decide_eq_true (by first | (with_reducible assumption) | assumption); have q430 : (ji52) < (y407.length : Int) := of_decide_eq_true (by first | (with_reducible assumption) | assumption); obtain ⟨ad430, e430, hx430_0⟩ := Kd.at_bool (Kd.R_reads' HO_8.out).2.2 (ji52) p430 q430; obtain rfl : ad428 = ad430 := (by injection e430); have hn430_0 : ad428.block ≠ gb426 := Kd.own_blk (Kd.R_ne HO_8.out BK426.out (by decide)); have hn430_1 : ad428.block ≠ gb426 := Kd.own_blk (Kd.R_ne HO_8.out BK426.out (by decide)); have hn430_2 : ad428.block ≠ gb426 := Kd.own_blk (Kd.R_ne HO_8.out BK426.out (by decide)); replace hx430_0 := (cell_far (p := ⟨gb426, 0, none⟩) (by first | (rw [add_block]; exact hn430_0) | (show (Addr.add _ _).block ≠ _; rw [add_block]; exact hn430_0) | exact hn430_0) (.int .i64 ((rd_T49 t416 x22_2).f0))).trans hx430_0; replace hx430_0 := (cell_far (p := ⟨gb426, 1, none⟩) (by first | (rw [add_block]; exact hn430_1) | (show (Addr.add _ _).block ≠ _; rw [add_block]; exact hn430_1) | exact hn430_1) (.int .i64 ((rd_T49 t416 x22_2).f1))).trans hx430_0; replace hx430_0 := (cell_far (p := ⟨gb426, 2, none⟩) (by first | (rw [add_block]; exact hn430_2) | (show (Addr.add _ _).block ≠ _; rw [add_block]; exact hn430_2) | exact hn430_2) (.int .i64 ((rd_T49 t416 x22_2).f2))).trans hx430_0; (try have hy430_0 := fun (n_ : Nat) => (show (((((w58.drewN n_).setCell ⟨gb426, 0, none⟩ (.int .i64 ((rd_T49 t416 x22_2).f0))).setCell ⟨gb426, 1, none⟩ (.int .i64 ((rd_T49 t416 x22_2).f1))).setCell ⟨gb426, 2, none⟩ (.int .i64 ((rd_T49 t416 x22_2).f2)))).cell? _ = some _ from hx430_0)); clear hn430_0; clear hn430_1; clear hn430_2; replace p430 := eq_true p430; replace q430 := eq_true q430)))
                           first | go_roundg k2 | (simp only [add_plain] at *; go_roundg k2)
                           case measure => have := HJ12.out; have := HK2.out; omega
                           case rel => exact ⟨(wrap64 (x20_2 + ((rd_T49 t416 x22_2).f2))), (wrap64 (((rd_T49 t416 x22_2).f0) + ((rd_T49 t416 x22_2).f1))), (wrap64 (x22_2 + 1)), (by first | rfl | (simp; done) | (simp [*]; done)), (by first | rfl | (simp; done) | (simp [*]; done)), (by first | rfl | (simp; done) | (simp [*]; done)), H', ⟨by have := HJ12.out; have := HK2.out; omega⟩, ⟨by (with_reducible repeat (first | apply Kd.R_alloc | apply Kd.R_drewN | apply Kd.R_drew)); exact Kd.R_mono (Kd.R_far (p := ⟨gb426, 2, none⟩) (Kd.R_far (p := ⟨gb426, 1, none⟩) (Kd.R_far (p := ⟨gb426, 0, none⟩) (Kd.R_types HO_8.out BK426.out (by decide)) (fun _ hk => hk.2) (.int .i64 ((rd_T49 t416 x22_2).f0))) (fun _ hk => hk.2) (.int .i64 ((rd_T49 t416 x22_2).f1))) (fun _ hk => hk.2) (.int .i64 ((rd_T49 t416 x22_2).f2))) (fun _ hk => trivial)⟩, ⟨by (with_reducible repeat (first | apply Kd.R_alloc | apply Kd.R_drewN | apply Kd.R_drew)); exact Kd.R_mono (Kd.R_far (p := ⟨gb426, 2, none⟩) (Kd.R_far (p := ⟨gb426, 1, none⟩) (Kd.R_far (p := ⟨gb426, 0, none⟩) (Kd.R_mono HO_16.out (fun k_ hk => (⟨hk, hk.2⟩ : _ ∧ k_ ≠ gb426))) (fun _ hk => hk.2) (.int .i64 ((rd_T49 t416 x22_2).f0))) (fun _ hk => hk.2) (.int .i64 ((rd_T49 t416 x22_2).f1))) (fun _ hk => hk.2) (.int .i64 ((rd_T49 t416 x22_2).f2))) (fun _ hk => trivial)⟩, ⟨by repeat (first | (with_reducible first | exact HB.out | apply below_alloc | apply pw_below_drewN | apply below_drew1 | refine below_set ?_ GE426.out) | exact HB.out)⟩⟩
                        ·rw [if_neg c55] at H
                         exact absurd H (by simp)
                       ·rw [if_neg c54] at H
                        exact absurd H (by simp)
                      ·rw [if_neg c53] at H
                       exact absurd H (by simp)
                    ·rw [if_neg c50] at H
                     exact absurd H (by simp)
                   ·rw [if_neg c49] at H
                    exact absurd H (by simp)
                  ·rw [if_neg c48] at H
                   exact absurd H (by simp)
           ·rw [if_neg c41] at H
            exact absurd H (by simp)
          ·rw [if_neg c40] at H
           have c40b0 : decide (x22_2 < (t416.length : Int)) = false := decide_eq_false c40
           clear c40
           by_cases c60 : x20_2 = t410
           ·rw [if_pos c60] at H
            have c60b0 : (x20_2 == t410) = true := beq_iff_eq.mpr c60
            have c60b1 : (x20_2 != t410) = false := bne_eq_false_iff_eq.mpr c60
            clear c60
            replace H := Option.bind_eq_some_iff.mp H
            obtain ⟨t431, A610, H⟩ := H
            replace H : (some t431) = some r := H
            have A61 := Aside0.mk A610
            clear A610
            as_aux_lemma =>
             obtain rfl := Option.some.inj H
             obtain ⟨Ao62, co62, eo62⟩ := Kd.R_slice HO_16.out
             subst eo62
             go_wp2_with (first | (go_at_call 38; (with_reducible refine (foghornlaw30_awake.calls k2  t431 _ A61.out).mono ?_); rintro e w63 ⟨rfl, hb⟩; have n0_ := Aside0.mk (Kd.R_below (by (with_reducible repeat (first | apply Kd.R_alloc | apply Kd.R_drewN | apply Kd.R_drew)); exact HO_8.out) hb); have n1_ := Aside0.mk (Kd.R_below (by (with_reducible repeat (first | apply Kd.R_alloc | apply Kd.R_drewN | apply Kd.R_drew)); exact HO_16.out) hb); have n2_ := Aside0.mk (below_step (by repeat (first | (with_reducible first | exact HB.out | apply below_alloc | apply pw_below_drewN | apply below_drew1) | exact HB.out)) hb); clear HO_8; clear HO_16; clear HB; have HO_8 := n0_; have HO_16 := n1_; have HB := n2_; clear n0_ n1_ n2_; (try clear hb); (try clear hb2); (try clear hk); (try clear hi)))
             repeat (go_quiet (first | (go_at_call 38; (with_reducible refine (foghornlaw30_awake.calls k2  t431 _ A61.out).mono ?_); rintro e w63 ⟨rfl, hb⟩; have n0_ := Aside0.mk (Kd.R_below (by (with_reducible repeat (first | apply Kd.R_alloc | apply Kd.R_drewN | apply Kd.R_drew)); exact HO_8.out) hb); have n1_ := Aside0.mk (Kd.R_below (by (with_reducible repeat (first | apply Kd.R_alloc | apply Kd.R_drewN | apply Kd.R_drew)); exact HO_16.out) hb); have n2_ := Aside0.mk (below_step (by repeat (first | (with_reducible first | exact HB.out | apply below_alloc | apply pw_below_drewN | apply below_drew1) | exact HB.out)) hb); clear HO_8; clear HO_16; clear HB; have HO_8 := n0_; have HO_16 := n1_; have HB := n2_; clear n0_ n1_ n2_; (try clear hb); (try clear hb2); (try clear hk); (try clear hi))); try go_wp2_with (first | (go_at_call 38; (with_reducible refine (foghornlaw30_awake.calls k2  t431 _ A61.out).mono ?_); rintro e w63 ⟨rfl, hb⟩; have n0_ := Aside0.mk (Kd.R_below (by (with_reducible repeat (first | apply Kd.R_alloc | apply Kd.R_drewN | apply Kd.R_drew)); exact HO_8.out) hb); have n1_ := Aside0.mk (Kd.R_below (by (with_reducible repeat (first | apply Kd.R_alloc | apply Kd.R_drewN | apply Kd.R_drew)); exact HO_16.out) hb); have n2_ := Aside0.mk (below_step (by repeat (first | (with_reducible first | exact HB.out | apply below_alloc | apply pw_below_drewN | apply below_drew1) | exact HB.out)) hb); clear HO_8; clear HO_16; clear HB; have HO_8 := n0_; have HO_16 := n1_; have HB := n2_; clear n0_ n1_ n2_; (try clear hb); (try clear hb2); (try clear hk); (try clear hi))))
             go_ret
             exact ⟨by first | rfl | (simp [errW_none, errW_some] <;> rfl) | (simp only [← hji4]; first | rfl | (simp [errW_none, errW_some] <;> rfl)) | (simp [*, errW_none, errW_some] <;> rfl), by repeat (first | (with_reducible first | exact HB.out | apply below_alloc | apply pw_below_drewN | apply below_drew1) | exact HB.out)⟩
           ·rw [if_neg c60] at H
            have c60b0 : (x20_2 == t410) = false := beq_eq_false_iff_ne.mpr c60
            have c60b1 : (x20_2 != t410) = true := bne_iff_ne.mpr c60
            as_aux_lemma =>
             exact absurd ((Option.some.inj H).trans HQ_.out) (by decide)
    ·rw [if_neg c8] at H
     exact absurd H (by simp)
   ·rw [if_neg c7] at H
    exact absurd H (by simp)
  ·rw [if_neg c6] at H
   exact absurd H (by simp)
 ·rw [if_neg c5] at H
  exact absurd H (by simp)

theorem foghornlaw30_MeterRuns.walk (P : foghornlaw30_MeterRuns.Pure) (A0 : Option Addr) (c0 : Nat) (l0 : List Bool) (A1 : Option Addr) (c1 : Nat) (l1 : List Bool) (a2 : Int) (w : World) (hr0 : Kd.C Kd.bool w A0 l0.length l0) (hc0 : l0.length ≤ c0) (hr1 : Kd.C Kd.bool w A1 l1.length l1) (hc1 : l1.length ≤ c1) (hw0 : l0.length * 1 ≤ 140737488351232 ∧ ∀ x ∈ l0, (fun y_ : Bool => True) x) (hw1 : l1.length * 1 ≤ 140737488351232 ∧ ∀ x ∈ l1, (fun y_ : Bool => True) x) (hw2 : (Lit.int .u8 a2).wf = true) :
  Calls Try.prog 5 #[.slice A0 l0.length c0, .slice A1 l1.length c1, .int .u8 a2] w fun e w' => e = .returned (.bool true) ∧ Below w.heap.size w w' := by
 obtain ⟨k, h⟩ := P l0 l1 a2 hw0 hw1 hw2
 refine (foghornlaw30_MeterRuns.calls k _ _ l0 _ _ l1 a2 true w hr0 hc0 hr1 hc1 h rfl).mono ?_
 rintro e w' ⟨rfl, hd⟩
 exact ⟨rfl, hd⟩

end Go.Proofs.Ythfcafllcgjepaa.Q
