import Derived.Test.YthfcafllcgjepaaFeedbackReachFeed5
import Derived.Test.YthfcafllcgjepaaFeedbackReachF1
/- FeedbackReach: whatever points went through whatever taps, with any disturbance below the first tap's size: the points are decided, and the residue is the disturbance divided by the first tap. -/
namespace Go.Proofs.Ythfcafllcgjepaa.Feed
open Ieee Go.RowKit Go.Proofs.Ythfcafllcgjepaa.Q Go.Proofs.YthfcafllcgjepaaW.PrintWords Go.Proofs.YthfcafllcgjepaaW.PrintLast Go.Proofs.YthfcafllcgjepaaW.PrintMore Go.Proofs.Ythfcafllcgjepaa.Flt Go.Proofs.Ythfcafllcgjepaa.Pt Go.Proofs.Ythfcafllcgjepaa.Slc
theorem Made.get' {T X : List (Int × Int)} {r : List (Nat × Nat)} (h : Made T X r) {i : Nat} (hi : i < r.length) : IsZ (rdOf (0, 0) r (i : Int)) (echoZ T X i) 18 := by
  rw [rd_nat _ _ _ hi]; exact h i hi
theorem is_same' {x y : Nat} {n m : Int} {k : Nat} (hx : Is x n k) (hy : Is y m k) (h : n = m) : (FloatKind.f64.format.order x y == some .eq) = true := by rw [hx.eq hy, decide_eq_true h]
theorem rd83' (l : List S83) (i : Nat) (h : i < l.length) : rd_T83 l (i : Int) = l[i] := by
  unfold rd_T83
  rw [Int.toNat_natCast, List.getD_eq_getElem?_getD, List.getElem?_eq_getElem h]
  rfl
def wZ (p : Int × Int) : Nat := p.1.natAbs + p.2.natAbs
theorem tot_Z : ∀ (t : List (Nat × Nat)) (T : List (Int × Int)), Ints 6 64 t T → (T.map wZ).sum = tot t
  | [], T, h => by
    have := h.len
    rw [List.length_nil, List.length_eq_zero_iff] at this
    subst this
    rfl
  | z :: t, [], h => by have := h.len; cases this
  | z :: t, p :: T, h => by
    have h0 : IsZ z p 6 := (h.is 0 (Nat.succ_pos _)).1
    have ih := tot_Z t T ⟨by have := h.len; simpa using this, fun i hi => h.is (i + 1) (by rw [List.length_cons]; omega)⟩
    unfold tot at ih ⊢
    rw [List.map_cons, List.sum_cons, List.map_cons, List.sum_cons, ih]
    congr 1
    show wZ p = tn z.1 + tn z.2
    rw [tn_of h0.1, tn_of h0.2]
    rfl
theorem conv_le (T P : List (Int × Int)) (hP : ∀ i, Box 15 (P.getD i (0, 0))) (n : Nat) : ∀ d j, j + d = T.length → Box (15 * ((T.drop j).map wZ).sum) (convZ T P n d j) := by
  intro d
  induction d with
  | zero => intro j _; exact ⟨Nat.zero_le _, Nat.zero_le _⟩
  | succ d ih =>
    intro j hj
    have hjt : j < T.length := by omega
    have e1 : T.getD j (0, 0) = T[j] := by rw [List.getD_eq_getElem?_getD, List.getElem?_eq_getElem hjt]; rfl
    rw [List.drop_eq_getElem_cons hjt, List.map_cons, List.sum_cons, convZ, e1]
    have hx : Box 15 (xat P n j) := by
      unfold xat
      split
      · exact hP _
      · exact ⟨Nat.zero_le _, Nat.zero_le _⟩
    obtain ⟨i1, i2⟩ := ih (j + 1) (by omega)
    have b1 := nabs_mul (p := T[j].1) (Nat.le_refl _) hx.1
    have b2 := nabs_mul (p := T[j].2) (Nat.le_refl _) hx.2
    have b3 := nabs_mul (p := T[j].1) (Nat.le_refl _) hx.2
    have b4 := nabs_mul (p := T[j].2) (Nat.le_refl _) hx.1
    generalize ((T.drop (j + 1)).map wZ).sum = q at i1 i2 ⊢
    unfold Box addZ mulZ wZ
    dsimp only
    constructor <;> omega
theorem mulZ_sc (a b : Int × Int) (c : Int) : mulZ a (scZ c b) = scZ c (mulZ a b) := by
  unfold mulZ scZ
  refine Prod.ext ?_ ?_
  · dsimp only
    rw [Int.mul_sub, Int.mul_left_comm, Int.mul_left_comm c]
    ac_rfl
  · dsimp only
    rw [Int.mul_add, Int.mul_left_comm, Int.mul_left_comm c]
    ac_rfl
theorem conv_sc (T : List (Int × Int)) {X P : List (Int × Int)} (c : Int) (n : Nat) (h : ∀ i, i ≤ n → X.getD i (0, 0) = scZ c (P.getD i (0, 0))) : ∀ d j, convZ T X n d j = scZ c (convZ T P n d j) := by
  intro d
  induction d with
  | zero => intro j; unfold scZ; simp [convZ]
  | succ d ih =>
    intro j
    have hx : xat X n j = scZ c (xat P n j) := by
      unfold xat
      by_cases e : j ≤ n
      · rw [if_pos e, if_pos e, h _ (by omega)]
      · rw [if_neg e, if_neg e]; unfold scZ; simp
    rw [convZ, convZ, hx, ih, mulZ_sc]
    unfold addZ scZ
    exact Prod.ext (by dsimp only; rw [Int.mul_add]) (by dsimp only; rw [Int.mul_add])
def lab (l : List Int) (S : Int) (j : Nat) : Int := Int.tmod (wrap64 (rd l (j : Int))) S
def pw (l : List Int) (S : Int) (n : Nat) : List (Nat × Nat) := (List.range n).map fun j => toC (pt S (lab l S j))
def PP (l : List Int) (S : Int) (n : Nat) : List (Int × Int) := (List.range n).map fun j => pt S (lab l S j)
def XX (l : List Int) (S : Int) (n : Nat) : List (Int × Int) := (List.range n).map fun j => scZ 4096 (pt S (lab l S j))
theorem pw_len (l : List Int) (S : Int) (n : Nat) : (pw l S n).length = n := by unfold pw; rw [List.length_map, List.length_range]
theorem range_getD {α : Type} (f : Nat → α) (d : α) (n i : Nat) : ((List.range n).map f).getD i d = if i < n then f i else d := by
  rw [List.getD_eq_getElem?_getD, List.getElem?_map]
  by_cases h : i < n
  · rw [if_pos h, List.getElem?_range h]; rfl
  · rw [if_neg h, List.getElem?_eq_none (by rw [List.length_range]; omega)]; rfl
theorem pw_succ (l : List Int) (S : Int) (n : Nat) : pw l S (n + 1) = pw l S n ++ [toC (pt S (lab l S n))] := by
  unfold pw
  rw [List.range_succ, List.map_append]
  rfl
theorem lab_ok {l : List Int} (hl : ∀ x ∈ l, (Lit.int .u8 x).wf = true) {S : Int} (six : Six S) (j : Nat) : 0 ≤ lab l S j ∧ lab l S j < S := by
  have hS : 4 ≤ S ∧ S ≤ 256 := by rcases six with rfl | rfl | rfl | rfl | rfl | rfl <;> decide
  have hr : 0 ≤ rd l (j : Int) ∧ rd l (j : Int) ≤ 255 := by
    unfold rd
    rw [Int.toNat_natCast, List.getD_eq_getElem?_getD]
    by_cases h : j < l.length
    · rw [List.getElem?_eq_getElem h]
      have := hl _ (List.getElem_mem h)
      unfold Lit.wf at this
      rw [Bool.and_eq_true, decide_eq_true_iff, decide_eq_true_iff, show IntKind.u8.min = 0 from by decide, show IntKind.u8.max = 255 from by decide] at this
      exact this
    · rw [List.getElem?_eq_none (by omega)]
      exact ⟨Int.le_refl 0, by decide⟩
  unfold lab
  rw [wrap_id _ (by omega) (by omega)]
  exact ⟨Int.tmod_nonneg _ hr.1, Int.tmod_lt_of_pos _ (by omega)⟩
theorem pw_ints {l : List Int} {S : Int} (six : Six S) (hl : ∀ j, 0 ≤ lab l S j ∧ lab l S j < S) (n : Nat) : Ints 12 4194304 (pw l S n) (XX l S n) := by
  refine ⟨by unfold pw XX; rw [List.length_map, List.length_map], fun i hi => ?_⟩
  rw [pw_len] at hi
  have hp := pt_box six (hl i).1 (hl i).2
  have e1 : (pw l S n)[i]'(by rw [pw_len]; exact hi) = toC (pt S (lab l S i)) := by unfold pw; simp
  have e2 : (XX l S n).getD i (0, 0) = scZ 4096 (pt S (lab l S i)) := by unfold XX; rw [range_getD, if_pos hi]
  rw [e1, e2]
  refine ⟨⟨?_, ?_⟩, ?_, ?_⟩
  · have := (Is.ofInt (pt S (lab l S i)).1 (by omega)).raise 12 (by decide)
    rw [Nat.zero_add, Int.mul_comm] at this
    exact this
  · have := (Is.ofInt (pt S (lab l S i)).2 (by omega)).raise 12 (by decide)
    rw [Nat.zero_add, Int.mul_comm] at this
    exact this
  · unfold scZ; dsimp only; omega
  · unfold scZ; dsimp only; omega
theorem XX_at (l : List Int) (S : Int) (n i : Nat) (h : i < n) : (XX l S n).getD i (0, 0) = scZ 4096 (pt S (lab l S i)) := by unfold XX; rw [range_getD, if_pos h]
theorem PP_at (l : List Int) (S : Int) (n i : Nat) (h : i < n) : (PP l S n).getD i (0, 0) = pt S (lab l S i) := by unfold PP; rw [range_getD, if_pos h]
theorem echo_PP {t : List (Nat × Nat)} {T : List (Int × Int)} (hT : Ints 6 64 t T) (ht : Taps t) {l : List Int} {S : Int} (six : Six S) (hl : ∀ j, 0 ≤ lab l S j ∧ lab l S j < S) (n i : Nat) (hi : i < n) : ∃ c : Int × Int, echoZ T (XX l S n) i = scZ 4096 c ∧ Box 3840 c := by
  refine ⟨echoZ T (PP l S n) i, conv_sc T 4096 i (fun j hj => by rw [XX_at _ _ _ _ (by omega), PP_at _ _ _ _ (by omega)]) _ _, ?_⟩
  have h := conv_le T (PP l S n) (fun j => by
    unfold PP
    rw [range_getD]
    split
    · exact pt_box six (hl j).1 (hl j).2
    · exact ⟨Nat.zero_le _, Nat.zero_le _⟩) i T.length 0 (by omega)
  rw [List.drop_zero, tot_Z t T hT] at h
  have h4 := ht.2.2.2
  unfold echoZ
  exact ⟨Nat.le_trans h.1 (by omega), Nat.le_trans h.2 (by omega)⟩
theorem answer_l0 {t x : List (Nat × Nat)} {T X : List (Int × Int)} (ht : Ints 6 64 t T) (hx : Ints 12 4194304 x X) (htl : t.length ≤ 64) (hxl : x.length ≤ 65536) (n : Nat) (hn : n < x.length) (d : Nat) :
    ∀ (j a b : Nat) (P : Int × Int), j + d = min t.length (n + 1) → IsZ (a, b) P 18 → Box (j * 536870912) P → ∃ z, IsZ z (addZ P (convZ T X n d j)) 18 ∧ Ev (fun k => foghornlaw11_answer.l0 k t x (n : Int) a b (j : Int)) z := by
  induction d with
  | zero =>
    intro j a b P hj hab _
    refine ⟨(a, b), by rw [convZ, addZ_zero]; exact hab, Ev.stepTo _ (fun k _ => ?_) (Ev.now _)⟩
    by_cases c : (j : Int) < (t.length : Int)
    · rw [foghornlaw11_answer.l0, if_pos c, if_neg (by omega)]
    · rw [foghornlaw11_answer.l0, if_neg c]
  | succ d ih =>
    intro j a b P hj hab hP
    have hjt : j < t.length := by omega
    have hjx : n - j < x.length := by omega
    have e0 : wrap64 ((n : Int) - (j : Int)) = ((n - j : Nat) : Int) := by rw [wrap_id _ (by omega) (by omega)]; omega
    obtain ⟨t1, t2⟩ := ht.is j hjt
    obtain ⟨x1, x2⟩ := hx.is (n - j) hjx
    have m1 := nabs_mul t2.1 x2.1
    have m2 := nabs_mul t2.2 x2.2
    have m3 := nabs_mul t2.1 x2.2
    have m4 := nabs_mul t2.2 x2.1
    have hP1 := hP.1
    have hP2 := hP.2
    obtain ⟨u1, e1, i1⟩ := t1.1.mul x1.1 (by omega) (by decide)
    obtain ⟨u2, e2, i2⟩ := t1.2.mul x1.2 (by omega) (by decide)
    obtain ⟨u3, e3, i3⟩ := i1.sub i2 (by omega)
    obtain ⟨u4, e4, i4⟩ := Is.add (x := a) hab.1 i3 (by omega)
    obtain ⟨u5, e5, i5⟩ := t1.1.mul x1.2 (by omega) (by decide)
    obtain ⟨u6, e6, i6⟩ := t1.2.mul x1.1 (by omega) (by decide)
    obtain ⟨u7, e7, i7⟩ := i5.add i6 (by omega)
    obtain ⟨u8, e8, i8⟩ := Is.add (x := b) hab.2 i7 (by omega)
    obtain ⟨z, z1, z2⟩ := ih (j + 1) u4 u8 (addZ P (mulZ (T.getD j (0, 0)) (X.getD (n - j) (0, 0)))) (by omega) ⟨i4, i8⟩ ⟨by unfold addZ mulZ; dsimp only; omega, by unfold addZ mulZ; dsimp only; omega⟩
    refine ⟨z, ?_, Ev.stepTo _ (fun k _ => ?_) z2⟩
    · rw [convZ, xat_of (by omega), ← addZ_assoc]; exact z1
    · rw [foghornlaw11_answer.l0, if_pos (by omega), if_pos (by omega), e0, if_pos (by omega), if_pos (by omega), if_pos (by omega), rd_nat _ _ _ hjt, rd_nat _ _ _ hjx, e1, Option.bind_some, e2, Option.bind_some, e3, Option.bind_some, e4, Option.bind_some, e5, Option.bind_some, e6, Option.bind_some, e7, Option.bind_some, e8, Option.bind_some, wrap_id _ (by omega) (by omega), show ((j : Int) + 1) = ((j + 1 : Nat) : Int) from by omega]
theorem answer_Z {t x : List (Nat × Nat)} {T X : List (Int × Int)} (ht : Ints 6 64 t T) (hx : Ints 12 4194304 x X) (htl : t.length ≤ 64) (hxl : x.length ≤ 65536) (n : Nat) (hn : n < x.length) : ∃ z, IsZ z (echoZ T X n) 18 ∧ Ev (fun k => foghornlaw11_answer.f k t x (n : Int)) z := by
  obtain ⟨z, z1, z2⟩ := answer_l0 ht hx htl hxl n hn (min t.length (n + 1)) 0 0 0 (0, 0) (by omega) ⟨is_zero 18, is_zero 18⟩ ⟨by decide, by decide⟩
  refine ⟨z, ?_, z2⟩
  have e : addZ (0, 0) (convZ T X n (min t.length (n + 1)) 0) = echoZ T X n := by
    rw [← echo_min, ht.len]
    unfold addZ
    exact Prod.ext (by dsimp only; omega) (by dsimp only; omega)
  rw [e] at z1
  exact z1
theorem same_Z {k : Nat} (a b : List (Nat × Nat)) (V : Nat → Int × Int) (hl : a.length ≤ 65536) (hb : b.length = a.length) (ha : ∀ i (h : i < a.length), IsZ a[i] (V i) k) (hb' : ∀ i (h : i < b.length), IsZ b[i] (V i) k) (d : Nat) : ∀ i : Nat, i + d = a.length → Ev (fun k => foghornref11_Same.l0 k a b (i : Int)) true := by
  induction d with
  | zero =>
    intro i hi
    exact Ev.stepTo _ (fun k _ => by rw [foghornref11_Same.l0, if_neg (by omega)]) (Ev.now _)
  | succ d ih =>
    intro i hi
    have h1 : i < a.length := by omega
    have h2 : i < b.length := by omega
    refine Ev.stepTo _ (fun k _ => ?_) (ih (i + 1) (by omega))
    rw [foghornref11_Same.l0, if_pos (by omega), if_pos (by omega), if_pos (by omega), rd_nat _ _ _ h1, rd_nat _ _ _ h2, (ha i h1).1.eq (hb' i h2).1, (ha i h1).2.eq (hb' i h2).2, decide_eq_true rfl, decide_eq_true rfl, if_neg (by decide), wrap_id _ (by omega) (by omega), show ((i : Int) + 1) = ((i + 1 : Nat) : Int) from by omega]
def dcd (l : List Int) (S : Int) (n : Nat) : List S83 := (List.range n).map fun j => ⟨lab l S j, toC (pt S (lab l S j)), false⟩
theorem dcd_len (l : List Int) (S : Int) (n : Nat) : (dcd l S n).length = n := by unfold dcd; rw [List.length_map, List.length_range]
theorem dcd_succ (l : List Int) (S : Int) (n : Nat) : dcd l S (n + 1) = dcd l S n ++ [⟨lab l S n, toC (pt S (lab l S n)), false⟩] := by
  unfold dcd
  rw [List.range_succ, List.map_append]
  rfl
structure RowOk (row : List S101) (T X : List (Int × Int)) (nz : Nat → Int × Int) : Prop where
  ok : ∀ i (h : i < row.length), row[i].f1 = false ∧ Grid row[i].f0 ∧ IsZ row[i].f0 (addZ (echoZ T X i) (scZ 64 (nz i))) 18
def FarOk (far : List (Nat × Nat)) (m q : Nat) (nz : Nat → Int × Int) : Prop := ∀ i (h : i < far.length), IsZ far[i] ((rot q (nz i)).1 * 2 ^ (2 + m), (rot q (nz i)).2 * 2 ^ (2 + m)) 14
theorem FarOk.app {far : List (Nat × Nat)} {m q : Nat} {nz : Nat → Int × Int} (h : FarOk far m q nz) {z : Nat × Nat} (hz : IsZ z ((rot q (nz far.length)).1 * 2 ^ (2 + m), (rot q (nz far.length)).2 * 2 ^ (2 + m)) 14) : FarOk (far ++ [z]) m q nz := fun i hi => by
  by_cases c : i < far.length
  · rw [List.getElem_append_left c]; exact h i c
  · have e : i = far.length := by rw [List.length_append] at hi; simp at hi; omega
    subst e
    rw [List.getElem_append_right (Nat.le_refl _)]
    simpa using hz
theorem run_Z {S : Int} (six : Six S) {t : List (Nat × Nat)} {t0 : Nat × Nat} {s q m : Nat} {σ : Int} (hf : Fine t t0) (h0 : Fst t0 s q σ m) {T : List (Int × Int)} (hT : Ints 6 64 t T) {l : List Int} (hlab : ∀ j, 0 ≤ lab l S j ∧ lab l S j < S) (row : List S101) {nz : Nat → Int × Int} (hr : RowOk row T (XX l S row.length) nz)
    (hN : ∀ i, (rot q (nz i)).1.natAbs < 2 ^ (12 - m) ∧ (rot q (nz i)).2.natAbs < 2 ^ (12 - m)) (d : Nat) : ∀ (i : Nat) (w : Lp) (far : List (Nat × Nat)), i + d = row.length → At S t s q (fun j => toC (pt S (lab l S j))) i w → far.length = i → FarOk far m q nz →
      ∃ F, Ev (fun k => lp_run k (row.drop i) w (dcd l S i) far) (dcd l S row.length, F) ∧ F.length = row.length ∧ FarOk F m q nz := by
  induction d with
  | zero =>
    intro i w far hi hw hfl hfar
    obtain rfl : i = row.length := by omega
    exact ⟨far, Ev.congr (fun k => by rw [List.drop_length, lp_run]) (Ev.now _), hfl, hfar⟩
  | succ d ih =>
    intro i w far hi hw hfl hfar
    have hil : i < row.length := by omega
    obtain ⟨r1, r2, r3⟩ := hr.ok i hil
    obtain ⟨b, z, g1, g2, g3⟩ := step_Z six hf h0 hT hlab hw (fun j hj => XX_at _ _ _ _ (by omega)) (hN i) r1 r2 r3
    obtain ⟨F, f1, f2, f3⟩ := ih (i + 1) _ (far ++ [z]) (by omega) (hw.next b) (by rw [List.length_append]; simp; omega) (hfar.app (by rw [hfl]; exact g3))
    refine ⟨F, Ev.congr (fun k => ?_) (g1 (fun k t => (lp_z t.1 t.2.2).bind fun z => lp_run k (row.drop (i + 1)) t.2.2 (dcd l S i ++ [t.1]) (far ++ [z])) _ (Ev.congr (fun k => ?_) f1)), f2, f3⟩
    · rw [List.drop_eq_getElem_cons hil, lp_run]
    · show (lp_z _ _).bind _ = _
      rw [g2, Option.bind_some, dcd_succ]
theorem start_Z {S : Int} (six : Six S) {t : List (Nat × Nat)} {t0 : Nat × Nat} {s q m : Nat} {σ : Int} (hf : Fine t t0) (h0 : Fst t0 s q σ m) (ps : Nat → Nat × Nat) : ∃ w, Ev (fun k => fb_new k S t) (0, w) ∧ At S t s q ps 0 w := by
  have htl := hf.taps.2.2.1
  have ht0 := hf.taps.2.1
  have e0 : t.getD 0 (0, 0) = t0 := by rw [List.getD_eq_getElem?_getD, hf.head]; rfl
  refine ⟨{ lp_zero S t.length with taps := lp_from (List.replicate 64 (0, 0)) 0 t, by_ := s, q := (q : Int) }, ?_, ?_⟩
  · refine Ev.congr (fun k => by rw [fb_new, edge_yes six, Option.bind_some, if_pos rfl]) (Ev.bind (fcheck hf h0) (Ev.congr (fun k => by rw [if_pos rfl, if_pos ⟨by omega, by omega⟩, e0]) (Ev.bind (f := fun _ b => some ((0 : Int), { lp_zero S t.length with taps := lp_from (List.replicate 64 (0, 0)) 0 t, by_ := b.1, q := b.2.1 })) h0.fst (Ev.now _))))
  · refine ⟨rfl, rfl, fun j hj => ?_, rfl, rfl, rfl, rfl, List.length_replicate, fun j h1 h2 => ?_⟩
    · show (lp_from (List.replicate 64 (0, 0)) 0 t).getD j (0, 0) = _
      rw [lp_from_at _ _ _ _ _ (by rw [List.length_replicate]; omega), if_pos ⟨Nat.zero_le _, by omega⟩, Nat.sub_zero]
    · show (List.replicate 64 ((0 : Nat), (0 : Nat))).getD _ _ = _
      rw [if_neg (by omega), List.getD_eq_getElem?_getD, List.getElem?_replicate]
      split <;> rfl
theorem run_ev {S : Int} (six : Six S) {t : List (Nat × Nat)} {t0 : Nat × Nat} {s q m : Nat} {σ : Int} (hf : Fine t t0) (h0 : Fst t0 s q σ m) {T : List (Int × Int)} (hT : Ints 6 64 t T) {l : List Int} (hlab : ∀ j, 0 ≤ lab l S j ∧ lab l S j < S) (row : List S101) (hrl : row.length ≤ 65536) {nz : Nat → Int × Int} (hr : RowOk row T (XX l S row.length) nz)
    (hN : ∀ i, (rot q (nz i)).1.natAbs < 2 ^ (12 - m) ∧ (rot q (nz i)).2.natAbs < 2 ^ (12 - m)) : ∃ F, Ev (fun k => feedback_run.f k S t row) (dcd l S row.length, F, 0) ∧ F.length = row.length ∧ FarOk F m q nz := by
  obtain ⟨w, w1, w2⟩ := start_Z six hf h0 (fun j => toC (pt S (lab l S j)))
  obtain ⟨F, f1, f2, f3⟩ := run_Z six hf h0 hT hlab row hr hN row.length 0 w [] (by omega) w2 rfl (fun i h => by cases h)
  have hc := clean row hrl (fun x hx => by
    obtain ⟨i, hi, rfl⟩ := List.getElem_of_mem hx
    exact ⟨(hr.ok i hi).1, (hr.ok i hi).2.1⟩)
  refine ⟨F, Ev.congr (fun k => by rw [feedback_run.f]) (Ev.bind w1 (Ev.congr (fun k => by rw [if_pos rfl]) (Ev.bind hc (Ev.congr (fun k => by rw [if_pos rfl, if_pos hrl]) (Ev.bind (f := fun _ r => some (r.1, r.2, (0 : Int))) (g := fun k => lp_run k row w [] []) f1 (Ev.now _)))))), f2, f3⟩
end Go.Proofs.Ythfcafllcgjepaa.Feed
namespace Go.Proofs.Ythfcafllcgjepaa.Feed
open Ieee Go.RowKit Go.Proofs.Ythfcafllcgjepaa.Q Go.Proofs.YthfcafllcgjepaaW.PrintWords Go.Proofs.YthfcafllcgjepaaW.PrintLast Go.Proofs.YthfcafllcgjepaaW.PrintMore Go.Proofs.Ythfcafllcgjepaa.Flt Go.Proofs.Ythfcafllcgjepaa.Pt Go.Proofs.Ythfcafllcgjepaa.Slc
theorem reach_l2 (l : List Int) (S : Int) (six : Six S) (hlab : ∀ j, 0 ≤ lab l S j ∧ lab l S j < S) (n : Nat) (hn : n = l.length) (hn3 : n ≤ 300) (d : Nat) : ∀ i : Nat, i + d = n → Ev (fun k => foghornlaw11_FeedbackReach.l2 k l S (pw l S n) (dcd l S n) (i : Int)) true := by
  have hS : 4 ≤ S ∧ S ≤ 256 := by rcases six with rfl | rfl | rfl | rfl | rfl | rfl <;> decide
  have l1 := pw_len l S n
  have l2 := dcd_len l S n
  induction d with
  | zero =>
    intro i hi
    exact Ev.stepTo _ (fun k _ => by rw [foghornlaw11_FeedbackReach.l2, if_neg (by omega)]) (Ev.now _)
  | succ d ih =>
    intro i hi
    have hp := fin_pt six (hlab i).1 (hlab i).2
    have e1 : rd_T83 (dcd l S n) (i : Int) = ⟨lab l S i, toC (pt S (lab l S i)), false⟩ := by
      rw [rd83' _ _ (by omega)]
      unfold dcd
      simp
    have e2 : rdOf (0, 0) (pw l S n) (i : Int) = toC (pt S (lab l S i)) := by
      rw [rd_nat _ _ _ (by omega)]
      unfold pw
      simp
    refine Ev.stepTo _ (fun k _ => ?_) (ih (i + 1) (by omega))
    rw [foghornlaw11_FeedbackReach.l2, if_pos (by omega), if_pos (by omega), e1, if_neg Bool.false_ne_true, if_pos (by omega), e2, eqv hp.1, eqv hp.2, if_neg (by decide), if_pos (by omega), if_neg (by omega), if_pos (show (lab l S i) = Int.tmod (wrap64 (rd l (i : Int))) S from rfl), wrap_id _ (by omega) (by omega), show ((i : Int) + 1) = ((i + 1 : Nat) : Int) from by omega]
def noise (N : List S171) (M : Int) (i : Nat) : Int × Int := if N.length = 0 then (0, 0) else (Int.tmod (rd_T171 N ((i % N.length : Nat) : Int)).f0 M, Int.tmod (rd_T171 N ((i % N.length : Nat) : Int)).f1 M)
theorem noise_box (N : List S171) (M : Nat) (hM : 0 < M) (i : Nat) : Box (M - 1) (noise N (M : Int) i) := by
  unfold noise
  split
  · exact ⟨Nat.zero_le _, Nat.zero_le _⟩
  · exact ⟨tmod_abs _ M hM, tmod_abs _ M hM⟩
theorem rot_lt (q : Nat) (hq : q < 4) {M : Nat} (hM : 0 < M) {N : Int × Int} (h : Box (M - 1) N) : (rot q N).1.natAbs < M ∧ (rot q N).2.natAbs < M := by
  have := rot_box q hq h
  exact ⟨by have := this.1; omega, by have := this.2; omega⟩
theorem reach_one {t0 : Nat × Nat} {s q m : Nat} {σ : Int} (h0 : Fst t0 s q σ m) {z d : Nat × Nat} {E c N : Int × Int} (hz : IsZ z E 18) (hE : E = scZ 4096 c) (hc : Box 3840 c) (hd : IsZ d N 12) (hN : Box (2 ^ (12 - m) - 1) N) :
    ∃ a b u f g, floatBits .add .f64 z.1 d.1 = some a ∧ floatBits .add .f64 z.2 d.2 = some b ∧ Ev (fun k => foghornref11_Turn.f k d (((4 - q) % 4 : Nat) : Int)) u ∧ floatBits .quo .f64 u.1 s = some f ∧ floatBits .quo .f64 u.2 s = some g ∧ Grid (a, b) ∧ IsZ (a, b) (addZ E (scZ 64 N)) 18 ∧ IsZ (f, g) ((rot q N).1 * 2 ^ (2 + m), (rot q N).2 * 2 ^ (2 + m)) 14 := by
  have hm := h0.m2
  have hq := h0.q4
  have pw4 : (2 : Nat) ^ (12 - m) ≤ 4096 := Nat.pow_le_pow_right (by decide) (by omega : 12 - m ≤ 12)
  have c1 := hc.1
  have c2 := hc.2
  have n1 := hN.1
  have n2 := hN.2
  have d1 := hd.1.raise 6 (by decide)
  have d2 := hd.2.raise 6 (by decide)
  rw [hE] at hz ⊢
  obtain ⟨z1, z2⟩ := hz
  obtain ⟨a, a1, a2⟩ := z1.add d1 (by unfold scZ; dsimp only; omega)
  obtain ⟨b, b1, b2⟩ := z2.add d2 (by unfold scZ; dsimp only; omega)
  have e1 : (scZ 4096 c).1 + N.1 * 2 ^ 6 = (64 * c.1 + N.1) * 2 ^ 6 := by unfold scZ; dsimp only; omega
  have e2 : (scZ 4096 c).2 + N.2 * 2 ^ 6 = (64 * c.2 + N.2) * 2 ^ 6 := by unfold scZ; dsimp only; omega
  have g1 : On 12 4194304 a := ⟨64 * c.1 + N.1, lower (l := 6) (by rw [← e1]; exact a2) (by decide), by omega⟩
  have g2 : On 12 4194304 b := ⟨64 * c.2 + N.2, lower (l := 6) (by rw [← e2]; exact b2) (by decide), by omega⟩
  obtain ⟨u, u1, u2⟩ := turnedToK ((4 - q) % 4) (by omega) ((4 - q) % 4) 0 d N (by omega) hd
  rw [tor_rot q hq] at u2
  have r := rot_box q hq hN
  have r1 := r.1
  have r2 := r.2
  obtain ⟨f, f1, f2⟩ := quo_small u2.1 h0.dec (by omega) (by decide) (by omega)
  obtain ⟨g, k1, k2⟩ := quo_small u2.2 h0.dec (by omega) (by decide) (by omega)
  have f3 := f2.raise (2 + m) (by omega)
  have k3 := k2.raise (2 + m) (by omega)
  rw [show 12 - m + (2 + m) = 14 by omega] at f3 k3
  refine ⟨a, b, u, f, g, a1, b1, u1, f1, k1, ⟨g1, g2⟩, ⟨?_, ?_⟩, f3, k3⟩
  · have : (scZ 4096 c).1 + N.1 * 2 ^ 6 = (addZ (scZ 4096 c) (scZ 64 N)).1 := by unfold addZ scZ; dsimp only; omega
    rw [← this]; exact a2
  · have : (scZ 4096 c).2 + N.2 * 2 ^ 6 = (addZ (scZ 4096 c) (scZ 64 N)).2 := by unfold addZ scZ; dsimp only; omega
    rw [← this]; exact b2
theorem RowOk.app {row : List S101} {T X : List (Int × Int)} {nz : Nat → Int × Int} (h : RowOk row T X nz) {v : Nat × Nat} (hg : Grid v) (hz : IsZ v (addZ (echoZ T X row.length) (scZ 64 (nz row.length))) 18) : RowOk (row ++ [⟨v, false⟩]) T X nz := ⟨fun i hi => by
  by_cases c : i < row.length
  · rw [List.getElem_append_left c]; exact h.ok i c
  · have e : i = row.length := by rw [List.length_append] at hi; simp at hi; omega
    subst e
    rw [List.getElem_append_right (Nat.le_refl _)]
    simpa using ⟨hg, hz⟩⟩
theorem reach_l1 {S : Int} (six : Six S) {t : List (Nat × Nat)} {t0 : Nat × Nat} {s q m : Nat} {σ : Int} (hf : Fine t t0) (h0 : Fst t0 s q σ m) {T : List (Int × Int)} (hT : Ints 6 64 t T) (l : List Int) (hlab : ∀ j, 0 ≤ lab l S j ∧ lab l S j < S) (N : List S171) (n : Nat) (hn : n = l.length) (hn3 : n ≤ 300) (hNl : N.length ≤ 140737488351232) (r : List (Nat × Nat)) (hr : r.length = n) (hM : Made T (XX l S n) r) (d : Nat) :
    ∀ (i : Nat) (row : List S101) (far : List (Nat × Nat)), i + d = n → row.length = i → far.length = i → RowOk row T (XX l S n) (noise N ((2 ^ (12 - m) : Nat) : Int)) → FarOk far m q (noise N ((2 ^ (12 - m) : Nat) : Int)) →
      Ev (fun k => foghornlaw11_FeedbackReach.l1 k l N S t (pw l S n) s (q : Int) ((2 ^ (12 - m) : Nat) : Int) r row far (i : Int)) true := by
  have hS : 4 ≤ S ∧ S ≤ 256 := by rcases six with rfl | rfl | rfl | rfl | rfl | rfl <;> decide
  have htl := hf.taps.2.2.1
  have hpl := pw_len l S n
  have hq := h0.q4
  obtain ⟨M, hMd⟩ : ∃ M : Nat, M = 2 ^ (12 - m) := ⟨_, rfl⟩
  have hM0 : 0 < M := by rw [hMd]; exact Nat.two_pow_pos _
  rw [← hMd]
  induction d with
  | zero =>
    intro i row far hi hrow hfar hro hfo
    have hrn : row.length = n := by omega
    rw [← hrn] at hro
    obtain ⟨F, f1, f2, f3⟩ := run_ev six hf h0 hT hlab row (by omega) hro (fun j => by rw [← hMd]; exact rot_lt q hq hM0 (noise_box N M hM0 j))
    rw [hrn] at f1
    have hs := same_Z F far (fun j => ((rot q (noise N (M : Int) j)).1 * 2 ^ (2 + m), (rot q (noise N (M : Int) j)).2 * 2 ^ (2 + m))) (by omega) (by omega) f3 hfo F.length 0 (by omega)
    have hs' : Ev (fun k => foghornref11_Same.f k F far) true := Ev.congr (fun k => by rw [foghornref11_Same.f, if_pos (by omega)]; rfl) hs
    have hl := reach_l2 l S six hlab n hn hn3 n 0 (by omega)
    have hj : Ev (fun k => foghornlaw11_FeedbackReach.j4 k l S (pw l S n) (dcd l S n) (!true)) true := Ev.stepTo _ (fun k _ => by rw [foghornlaw11_FeedbackReach.j4, if_neg (by decide)]; rfl) hl
    have hrun : Ev (fun k => feedback_Run.f k S t row) (dcd l S n, 0) := Ev.congr (fun k => by rw [feedback_Run.f]) (Ev.bind (f := fun _ bt => some (bt.1, bt.2.2)) f1 (Ev.now _))
    have hres : Ev (fun k => feedback_Residue.f k S t row) (F, 0) := Ev.congr (fun k => by rw [feedback_Residue.f]) (Ev.bind (f := fun _ bt => some (bt.2.1, bt.2.2)) f1 (Ev.now _))
    refine Ev.stepTo _ (fun k _ => by rw [foghornlaw11_FeedbackReach.l1, if_neg (by omega)]) (Ev.bind hrun (Ev.bind hres (Ev.congr (fun k => ?_) (Ev.bind (f := fun k b => foghornlaw11_FeedbackReach.j4 k l S (pw l S n) (dcd l S n) (!b)) hs' hj))))
    rw [if_pos rfl, if_pos rfl, if_pos (show (((dcd l S n, (0 : Int)).1.length : Nat) : Int) = _ by show ((dcd l S n).length : Int) = _; rw [dcd_len, hpl])]
  | succ d ih =>
    intro i row far hi hrow hfar hro hfo
    obtain ⟨z, z1, z2⟩ := answer_Z hT (pw_ints six hlab n) htl (by omega) i (by omega)
    have hri : IsZ (rdOf (0, 0) r (i : Int)) (echoZ T (XX l S n) i) 18 := Made.get' hM (by omega)
    have b1 := is_same' hri.1 z1.1 rfl
    have b2 := is_same' hri.2 z1.2 rfl
    obtain ⟨c, c1, c2⟩ := echo_PP hT hf.taps six hlab n i (by omega)
    have turn : Int.tmod (wrap64 (4 - (q : Int))) 4 = (((4 - q) % 4 : Nat) : Int) := by
      rw [wrap_id _ (by omega) (by omega), show (4 - (q : Int)) = ((4 - q : Nat) : Int) by omega, show (4 : Int) = ((4 : Nat) : Int) from rfl, ← Int.ofNat_tmod]
    have fin : ∀ (dd : Nat × Nat), IsZ dd (noise N (M : Int) i) 12 → ∃ a b, floatBits .add .f64 z.1 dd.1 = some a ∧ floatBits .add .f64 z.2 dd.2 = some b ∧
        Ev (fun k => (foghornref11_Turn.f k dd (((4 - q) % 4 : Nat) : Int)).bind fun u => (floatBits .quo .f64 u.1 s).bind fun x => (floatBits .quo .f64 u.2 s).bind fun y => if far.length < 8796093022208 then foghornlaw11_FeedbackReach.l1 k l N S t (pw l S n) s (q : Int) (M : Int) r (row ++ [⟨(a, b), false⟩]) (far ++ [(x, y)]) (wrap64 ((i : Int) + 1)) else none) true := fun dd hdd => by
      obtain ⟨a, b, u, f, g, k1, k2, k3, k4, k5, k6, k7, k8⟩ := reach_one h0 z1 c1 c2 hdd (by rw [← hMd]; exact noise_box N M hM0 i)
      refine ⟨a, b, k1, k2, Ev.bind k3 (Ev.congr (fun k => by rw [k4, Option.bind_some, k5, Option.bind_some, if_pos (by omega), wrap_id _ (by omega) (by omega), show ((i : Int) + 1) = ((i + 1 : Nat) : Int) from by omega]) ?_)⟩
      exact (ih (i + 1) _ _ (by omega) (by rw [List.length_append]; simp; omega) (by rw [List.length_append]; simp; omega) (hro.app k6 (by rw [hrow]; exact k7)) (hfo.app (by rw [hfar]; exact k8)))
    by_cases hN0 : N.length = 0
    · have hz0 : IsZ (0, 0) (noise N (M : Int) i) 12 := by
        unfold noise
        rw [if_pos hN0]
        exact ⟨is_zero 12, is_zero 12⟩
      obtain ⟨a, b, k1, k2, k3⟩ := fin (0, 0) hz0
      dsimp only at k1 k2
      refine Ev.stepTo _ (fun k _ => by rw [foghornlaw11_FeedbackReach.l1, if_pos (by omega)]) (Ev.bind z2 (Ev.congr (fun k => ?_) k3))
      rw [if_pos (by omega), if_pos (by omega), b1, b2, if_neg (by decide), if_neg (by omega), k1, Option.bind_some, k2, Option.bind_some, if_pos (by omega), turn]
    · have ix : Int.tmod (i : Int) (N.length : Int) = ((i % N.length : Nat) : Int) := (Int.ofNat_tmod _ _).symm
      have ixl : i % N.length < N.length := Nat.mod_lt _ (by omega)
      have bx := noise_box N M hM0 i
      have pw4 : M ≤ 4096 := by rw [hMd]; exact Nat.pow_le_pow_right (by decide) (by omega : 12 - m ≤ 12)
      have x1 := bx.1
      have x2 := bx.2
      have en : noise N (M : Int) i = (Int.tmod (rd_T171 N ((i % N.length : Nat) : Int)).f0 (M : Int), Int.tmod (rd_T171 N ((i % N.length : Nat) : Int)).f1 (M : Int)) := by unfold noise; rw [if_neg hN0]
      rw [en] at x1 x2
      obtain ⟨p, p1, p2⟩ := (Is.ofInt (Int.tmod (rd_T171 N ((i % N.length : Nat) : Int)).f0 (M : Int)) (by dsimp only at x1; omega)).quo d4096 (by decide) (by dsimp only at x1; omega)
      obtain ⟨v, v1, v2⟩ := (Is.ofInt (Int.tmod (rd_T171 N ((i % N.length : Nat) : Int)).f1 (M : Int)) (by dsimp only at x2; omega)).quo d4096 (by decide) (by dsimp only at x2; omega)
      obtain ⟨a, b, k1, k2, k3⟩ := fin (p, v) (by rw [en]; exact ⟨p2, v2⟩)
      dsimp only at k1 k2
      refine Ev.stepTo _ (fun k _ => by rw [foghornlaw11_FeedbackReach.l1, if_pos (by omega)]) (Ev.bind z2 (Ev.congr (fun k => ?_) k3))
      rw [if_pos (by omega), if_pos (by omega), b1, b2, if_neg (by decide), if_pos (by omega), if_neg (by omega), ix, if_pos (by omega), if_pos (by omega), if_neg (by omega), p1, Option.bind_some, v1, Option.bind_some, k1, Option.bind_some, k2, Option.bind_some, if_pos (by omega), turn]
theorem reach_l0 {S : Int} (six : Six S) {t : List (Nat × Nat)} {t0 : Nat × Nat} {s q m : Nat} {σ : Int} (hf : Fine t t0) (h0 : Fst t0 s q σ m) (l : List Int) (hlab : ∀ j, 0 ≤ lab l S j ∧ lab l S j < S) (N : List S171) (hn3 : l.length ≤ 300) (hNl : N.length ≤ 140737488351232) (d : Nat) :
    ∀ (i : Nat), i + d = l.length → Ev (fun k => foghornlaw11_FeedbackReach.l0 k l N S t ((pts S).map toC) (pw l S i) (i : Int)) true := by
  have hS : 4 ≤ S ∧ S ≤ 256 := by rcases six with rfl | rfl | rfl | rfl | rfl | rfl <;> decide
  have htl := hf.taps.2.2.1
  have ht0 := hf.taps.2.1
  have hm := h0.m2
  induction d with
  | zero =>
    intro i hi
    obtain rfl : i = l.length := by omega
    obtain ⟨T, hT⟩ := Ints.of t hf.taps.1
    obtain ⟨r, r1, r2, r3⟩ := echo_Z hf.word hf.taps hT (pw_ints six hlab l.length) (by rw [pw_len]; omega)
    rw [pw_len] at r1
    have key := reach_l1 six hf h0 hT l hlab N l.length rfl hn3 hNl r r1 r2 l.length 0 [] [] (by omega) rfl rfl ⟨fun i h => by cases h⟩ (fun i h => by cases h)
    obtain ⟨u, hu, hv⟩ := Option.bind_eq_some_iff.1 h0.room
    have hr : rdOf (0, 0) t 0 = t0 := by
      have := rd_nat (0, 0) t 0 ht0
      have h3 := hf.head
      rw [List.getElem?_eq_getElem ht0] at h3
      exact this.trans (Option.some.inj h3)
    have hne : ((((r, (0 : Int)).1.length : Nat) : Int) != ((pw l S l.length).length : Int)) = false := by
      rw [bne_eq_false_iff_eq, pw_len]; show (r.length : Int) = _; omega
    refine Ev.stepTo _ (fun k _ => by rw [foghornlaw11_FeedbackReach.l0, if_neg (by omega), if_pos (by omega), hr]) (Ev.bind h0.rfst (Ev.congr (fun k => by rw [hu, Option.bind_some, hv, Option.bind_some]) (Ev.bind r3 (Ev.congr (fun k => ?_) (Ev.stepTo (g := fun k => foghornlaw11_FeedbackReach.j2 k l N S t (pw l S l.length) s (q : Int) ((2 ^ (12 - m) : Nat) : Int) r false) _ (fun k _ => by rw [foghornlaw11_FeedbackReach.j2, if_neg (by decide)]; rfl) key)))))
    rw [if_pos rfl, hne]
  | succ d ih =>
    intro i hi
    have hl := hlab i
    have hlen := len_ six
    have e1 : rdOf (0, 0) ((pts S).map toC) (lab l S i) = toC (pt S (lab l S i)) := rd_toC six hl.1 hl.2
    have e2 : Int.tmod (wrap64 (rd l (i : Int))) S = lab l S i := rfl
    have hpl := pw_len l S i
    refine Ev.stepTo _ (fun k _ => ?_) (ih (i + 1) (by omega))
    rw [foghornlaw11_FeedbackReach.l0, if_pos (by omega), if_pos (by omega), if_neg (by omega), e2, if_pos hl.1, if_pos (by rw [List.length_map]; omega), if_pos (by omega), e1, ← pw_succ, wrap_id _ (by omega) (by omega), show ((i : Int) + 1) = ((i + 1 : Nat) : Int) from by omega]
theorem size11 (n : Int) : ∃ s, foghornlaw11_size.f n = some s ∧ Six s := by
  obtain ⟨i, hi, h0⟩ := turns n 6 (by decide) (by decide)
  rw [show ((6 : Nat) : Int) = 6 from rfl] at hi
  have hf : foghornlaw11_size.f n = if 0 ≤ (i : Int) then (if (i : Int) < 6 then some (rd [4, 16, 32, 64, 128, 256] (i : Int)) else none) else none := by
    rw [foghornlaw11_size.f, Option.bind_some, hi]; rfl
  rw [if_pos (by omega), if_pos (by omega)] at hf
  refine ⟨_, hf, ?_⟩
  rcases (show i = 0 ∨ i = 1 ∨ i = 2 ∨ i = 3 ∨ i = 4 ∨ i = 5 by omega) with rfl | rfl | rfl | rfl | rfl | rfl <;> decide
theorem reach_j0 {S : Int} (six : Six S) {t : List (Nat × Nat)} {t0 : Nat × Nat} {s q m : Nat} {σ : Int} (hf : Fine t t0) (h0 : Fst t0 s q σ m) (l : List Int) (hl : ∀ x ∈ l, (Lit.int .u8 x).wf = true) (N : List S171) (hn3 : l.length ≤ 300) (hNl : N.length ≤ 140737488351232) : Ev (fun k => foghornlaw11_FeedbackReach.j0 k l N S t ((pts S).map toC)) true :=
  Ev.stepTo _ (fun k _ => by rw [foghornlaw11_FeedbackReach.j0]; rfl) (reach_l0 six hf h0 l (fun j => lab_ok hl six j) N hn3 hNl l.length 0 (by omega))
end Go.Proofs.Ythfcafllcgjepaa.Feed
namespace Go.Proofs.Ythfcafllcgjepaa.Pure
open Go.RowKit Go.Proofs.Ythfcafllcgjepaa.Q Go.Proofs.YthfcafllcgjepaaW.PrintWords Go.Proofs.YthfcafllcgjepaaW.PrintLast Go.Proofs.Ythfcafllcgjepaa.Feed Go.Proofs.Ythfcafllcgjepaa.Pt
theorem FeedbackReach : foghornlaw11_FeedbackReach.Pure := by
  intro a0 l1 a2 a3 l4 l5 _ h1 _ _ h4 h5
  obtain ⟨S, hS, six⟩ := size11 a0
  obtain ⟨t, t0, s, q, σ, m, t1, t2, t3⟩ := may_ev a2 a3 l4 (by omega)
  have key : Ev (fun k => foghornlaw11_FeedbackReach.f k a0 l1 a2 a3 l4 l5) true := by
    refine Ev.congr (fun k => by rw [foghornlaw11_FeedbackReach.f]) (Ev.bind awake11 (Ev.congr (fun k => by rw [if_pos rfl, hS, Option.bind_some]) (Ev.bind t1 (Ev.bind (ref_all six) ?_))))
    by_cases c : l1.length > 300
    · exact Ev.congr (fun k => by rw [if_pos (by omega), if_pos (by omega)]) (reach_j0 six t2 t3 (l1.take 300) (fun x hx => h1.2 x (List.mem_of_mem_take hx)) l5 (by rw [List.length_take]; omega) (by omega))
    · exact Ev.congr (fun k => by rw [if_neg (by omega)]) (reach_j0 six t2 t3 l1 h1.2 l5 (by omega) (by omega))
  exact key.rounds
end Go.Proofs.Ythfcafllcgjepaa.Pure
