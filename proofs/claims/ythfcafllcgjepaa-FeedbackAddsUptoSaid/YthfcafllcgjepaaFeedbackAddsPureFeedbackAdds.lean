import Derived.Test.YthfcafllcgjepaaFeedbackAddsFeed4
import Derived.Test.YthfcafllcgjepaaFeedbackAddsF0
/- FeedbackAdds: what a sum of rows becomes is the sum of what they become; noughts ahead stay noughts. The condition: what comes in holds at most 1048576 values together. -/
namespace Go.Proofs.Ythfcafllcgjepaa.Feed
open Ieee Go.RowKit Go.Proofs.Ythfcafllcgjepaa.Q Go.Proofs.YthfcafllcgjepaaW.PrintWords Go.Proofs.YthfcafllcgjepaaW.PrintLast Go.Proofs.YthfcafllcgjepaaW.PrintMore Go.Proofs.Ythfcafllcgjepaa.Flt

theorem Ints.nil (k B : Nat) : Ints k B [] [] := ⟨rfl, fun i h => by cases h⟩
theorem Ints.app {k B : Nat} {t : List (Nat × Nat)} {T : List (Int × Int)} (h : Ints k B t T) {z : Nat × Nat} {p : Int × Int} (hz : IsZ z p k) (hp : Box B p) : Ints k B (t ++ [z]) (T ++ [p]) := by
  refine ⟨by rw [List.length_append, List.length_append, h.len]; rfl, fun i hi => ?_⟩
  by_cases c : i < t.length
  · rw [List.getElem_append_left c, List.getD_eq_getElem?_getD, List.getElem?_append_left (by rw [h.len]; exact c), ← List.getD_eq_getElem?_getD]
    exact h.is i c
  · have e : i = t.length := by rw [List.length_append] at hi; simp at hi; omega
    subst e
    have e1 : (t ++ [z])[t.length] = z := by rw [List.getElem_append_right (Nat.le_refl _)]; simp
    have e2 : (T ++ [p]).getD t.length (0, 0) = p := by rw [List.getD_eq_getElem?_getD, List.getElem?_append_right (by rw [h.len]; exact Nat.le_refl _), h.len, Nat.sub_self]; rfl
    rw [e1, e2]
    exact ⟨hz, hp⟩
theorem Ints.up {k B C : Nat} {t : List (Nat × Nat)} {T : List (Int × Int)} (h : Ints k B t T) (hB : B ≤ C) : Ints k C t T :=
  ⟨h.len, fun i hi => ⟨(h.is i hi).1, Nat.le_trans (h.is i hi).2.1 hB, Nat.le_trans (h.is i hi).2.2 hB⟩⟩
theorem Ints.box {k B : Nat} {t : List (Nat × Nat)} {T : List (Int × Int)} (h : Ints k B t T) (i : Nat) : Box B (T.getD i (0, 0)) := by
  by_cases c : i < t.length
  · exact (h.is i c).2
  · rw [List.getD_eq_getElem?_getD, List.getElem?_eq_none (by rw [h.len]; omega)]
    exact ⟨Nat.zero_le _, Nat.zero_le _⟩
theorem conv_box {T X : List (Int × Int)} (hT : ∀ i, Box 64 (T.getD i (0, 0))) (hX : ∀ i, Box 4194304 (X.getD i (0, 0))) (n : Nat) : ∀ d j, Box (d * 536870912) (convZ T X n d j) := by
  intro d
  induction d with
  | zero => intro j; exact ⟨Nat.zero_le _, Nat.zero_le _⟩
  | succ d ih =>
    intro j
    have hx : Box 4194304 (xat X n j) := by
      unfold xat
      split
      · exact hX _
      · exact ⟨Nat.zero_le _, Nat.zero_le _⟩
    have h1 := nabs_mul (hT j).1 hx.1
    have h2 := nabs_mul (hT j).2 hx.2
    have h3 := nabs_mul (hT j).1 hx.2
    have h4 := nabs_mul (hT j).2 hx.1
    have h5 := (ih (j + 1)).1
    have h6 := (ih (j + 1)).2
    rw [convZ]
    unfold Box addZ mulZ at *
    dsimp only at *
    constructor <;> omega
theorem echo_box {t x : List (Nat × Nat)} {T X : List (Int × Int)} (ht : Ints 6 64 t T) (hx : Ints 12 4194304 x X) (htl : t.length ≤ 64) (n : Nat) : Box 34359738368 (echoZ T X n) := by
  have h := conv_box ht.box hx.box n T.length 0
  have hl := ht.len
  unfold echoZ
  exact ⟨Nat.le_trans h.1 (by omega), Nat.le_trans h.2 (by omega)⟩
theorem Made.get {T X : List (Int × Int)} {r : List (Nat × Nat)} (h : Made T X r) {i : Nat} (hi : i < r.length) : IsZ (rdOf (0, 0) r (i : Int)) (echoZ T X i) 18 := by
  rw [rd_nat _ _ _ hi]; exact h i hi
theorem is_same {x y : Nat} {n m : Int} {k : Nat} (hx : Is x n k) (hy : Is y m k) (h : n = m) : (FloatKind.f64.format.order x y == some .eq) = true := by rw [hx.eq hy, decide_eq_true h]
theorem adds_l2 (a late w : List (Nat × Nat)) {T L : List (Int × Int)} (c : Nat) (hc : late.length = c + a.length) (hl : late.length ≤ 400) (hw : w.length = late.length) (hM : Made T L w) (h0 : ∀ i, i < c → L.getD i (0, 0) = (0, 0)) (d : Nat) : ∀ i : Nat, i + d = c → Ev (fun k => foghornlaw11_FeedbackAdds.l2 k a late w (i : Int)) true := by
  have e1 : wrap64 ((late.length : Int) - (a.length : Int)) = (c : Int) := by rw [wrap_id _ (by omega) (by omega)]; omega
  induction d with
  | zero =>
    intro i hi
    exact Ev.stepTo _ (fun k _ => by rw [foghornlaw11_FeedbackAdds.l2, e1, if_neg (by omega)]) (Ev.now _)
  | succ d ih =>
    intro i hi
    have h1 := hM.get (i := i) (by omega)
    rw [echo_nought T c i (by omega) h0] at h1
    have b1 := is_same h1.1 (is_zero 18) rfl
    have b2 := is_same h1.2 (is_zero 18) rfl
    refine Ev.stepTo _ (fun k _ => ?_) (ih (i + 1) (by omega))
    rw [foghornlaw11_FeedbackAdds.l2, e1, if_pos (by omega), if_pos (by omega), if_pos (by omega), b1, b2, if_neg (by decide), wrap_id _ (by omega) (by omega), show ((i : Int) + 1) = ((i + 1 : Nat) : Int) from by omega]
theorem adds_l1 (a late p q r w : List (Nat × Nat)) {T A B C L : List (Int × Int)} (c : Nat) (hc : late.length = c + a.length) (hl : late.length ≤ 400) (hp : p.length = a.length) (hq : q.length = a.length) (hr : r.length = a.length) (hw : w.length = late.length)
    (mp : Made T A p) (mq : Made T B q) (mr : Made T C r) (mw : Made T L w) (bA : ∀ n, Box 34359738368 (echoZ T A n)) (bB : ∀ n, Box 34359738368 (echoZ T B n))
    (hC : ∀ i, C.getD i (0, 0) = addZ (A.getD i (0, 0)) (B.getD i (0, 0))) (h0 : ∀ i, i < c → L.getD i (0, 0) = (0, 0)) (h1 : ∀ i, L.getD (c + i) (0, 0) = A.getD i (0, 0)) (d : Nat) :
    ∀ i : Nat, i + d = a.length → Ev (fun k => foghornlaw11_FeedbackAdds.l1 k a late p q r w (i : Int)) true := by
  induction d with
  | zero =>
    intro i hi
    exact Ev.stepTo _ (fun k _ => by rw [foghornlaw11_FeedbackAdds.l1, if_neg (by omega)]; rfl) (adds_l2 a late w c hc hl hw mw h0 c 0 (by omega))
  | succ d ih =>
    intro i hi
    have e1 : wrap64 (wrap64 ((i : Int) + (late.length : Int)) - (a.length : Int)) = ((i + c : Nat) : Int) := by
      rw [wrap_id ((i : Int) + (late.length : Int)) (by omega) (by omega), wrap_id _ (by omega) (by omega)]; omega
    have g1 := mp.get (i := i) (by omega)
    have g2 := mq.get (i := i) (by omega)
    have g3 := mr.get (i := i) (by omega)
    have g4 := mw.get (i := i + c) (by omega)
    have k1 := bA i
    have k2 := bB i
    unfold Box at k1 k2
    obtain ⟨u, u1, u2⟩ := g1.1.add g2.1 (by omega)
    obtain ⟨v, v1, v2⟩ := g1.2.add g2.2 (by omega)
    have hS : echoZ T C i = addZ (echoZ T A i) (echoZ T B i) := conv_add T i (fun j _ => hC j) _ _
    have b1 := is_same g3.1 u2 (by rw [hS]; rfl)
    have b2 := is_same g3.2 v2 (by rw [hS]; rfl)
    rw [echo_late T c i h0 h1] at g4
    have b3 := is_same g4.1 g1.1 rfl
    have b4 := is_same g4.2 g1.2 rfl
    refine Ev.stepTo _ (fun k _ => ?_) (ih (i + 1) (by omega))
    rw [foghornlaw11_FeedbackAdds.l1, if_pos (by omega), if_pos (by omega), if_pos (by omega), if_pos (by omega), if_pos (by omega), u1, Option.bind_some, v1, Option.bind_some, b1, b2, if_neg (by decide), e1, if_pos (by omega), if_pos (by omega), b3, b4, if_neg (by decide), wrap_id _ (by omega) (by omega), show ((i : Int) + 1) = ((i + 1 : Nat) : Int) from by omega]
theorem adds_end (t a b s late : List (Nat × Nat)) {t0 : Nat × Nat} {T A B C L : List (Int × Int)} (c : Nat) (hc20 : c < 20) (hf : Fine t t0) (hT : Ints 6 64 t T) (hA : Ints 12 1048575 a A) (hB : Ints 12 1048575 b B) (hC : Ints 12 2097150 s C) (hL : Ints 12 1048575 late L)
    (hb : b.length = a.length) (hs : s.length = a.length) (hl : late.length = c + a.length) (ha : a.length ≤ 300)
    (eC : ∀ i, C.getD i (0, 0) = addZ (A.getD i (0, 0)) (B.getD i (0, 0))) (h0 : ∀ i, i < c → L.getD i (0, 0) = (0, 0)) (h1 : ∀ i, L.getD (c + i) (0, 0) = A.getD i (0, 0)) (x y : List S101) (hx : x.length = a.length) :
    Ev (fun k => foghornlaw11_FeedbackAdds.l0 k t x y a b s late (a.length : Int)) true := by
  have hA' := hA.up (C := 4194304) (by decide)
  have hB' := hB.up (C := 4194304) (by decide)
  have hC' := hC.up (C := 4194304) (by decide)
  have hL' := hL.up (C := 4194304) (by decide)
  obtain ⟨p, p1, p2, p3⟩ := echo_Z hf.word hf.taps hT hA' (by omega)
  obtain ⟨q, q1, q2, q3⟩ := echo_Z hf.word hf.taps hT hB' (by omega)
  obtain ⟨r, r1, r2, r3⟩ := echo_Z hf.word hf.taps hT hC' (by omega)
  obtain ⟨w, w1, w2, w3⟩ := echo_Z hf.word hf.taps hT hL' (by omega)
  have hend := adds_l1 a late p q r w c hl (by omega) (by omega) (by omega) (by omega) (by omega) p2 q2 r2 w2 (echo_box hT hA' hf.taps.2.2.1) (echo_box hT hB' hf.taps.2.2.1) eC h0 h1 a.length 0 (by omega)
  refine Ev.stepTo _ (fun k _ => by rw [foghornlaw11_FeedbackAdds.l0, if_neg (by omega)]) (Ev.bind p3 (Ev.bind q3 (Ev.bind r3 (Ev.bind w3 ?_))))
  have hne : (((w, (0 : Int)).1.length : Int) != (late.length : Int)) = false := by
    rw [bne_eq_false_iff_eq]; show (w.length : Int) = _; omega
  refine Ev.congr (fun k => ?_) (Ev.stepTo (g := fun k => foghornlaw11_FeedbackAdds.j2 k a late p q r w false) _ (fun k _ => by rw [foghornlaw11_FeedbackAdds.j2, if_neg (by decide)]; rfl) hend)
  rw [if_pos rfl, if_pos rfl, if_pos rfl, if_pos rfl, if_pos (show ((p, (0 : Int)).1.length : Int) = _ by show (p.length : Int) = _; omega), if_pos (show ((q, (0 : Int)).1.length : Int) = _ by show (q.length : Int) = _; omega), if_pos (show ((r, (0 : Int)).1.length : Int) = _ by show (r.length : Int) = _; omega), hne]
theorem getD_app {α : Type} (d : α) (l : List α) (a : α) (i : Nat) : (l ++ [a]).getD i d = if i < l.length then l.getD i d else if i = l.length then a else d := by
  rw [List.getD_eq_getElem?_getD]
  by_cases c : i < l.length
  · rw [if_pos c, List.getElem?_append_left c, List.getD_eq_getElem?_getD]
  · rw [if_neg c, List.getElem?_append_right (by omega)]
    by_cases e : i = l.length
    · rw [if_pos e, e, Nat.sub_self]; rfl
    · rw [if_neg e, List.getElem?_eq_none (by simp; omega)]; rfl
theorem getD_out {α : Type} (d : α) (l : List α) (i : Nat) (h : l.length ≤ i) : l.getD i d = d := by
  rw [List.getD_eq_getElem?_getD, List.getElem?_eq_none h]; rfl
theorem adds_l0 (t : List (Nat × Nat)) {t0 : Nat × Nat} {T : List (Int × Int)} (c : Nat) (hc20 : c < 20) (hf : Fine t t0) (hT : Ints 6 64 t T) (x y : List S101) {X Y : List (Int × Int)} (hX : Near x X) (hY : Near y Y) (hx : x.length ≤ 300) (hy : y.length ≤ 5000000000000) (d : Nat) :
    ∀ (i : Nat) (a b s late : List (Nat × Nat)) (A B C L : List (Int × Int)), i + d = x.length → a.length = i → Ints 12 1048575 a A → Ints 12 1048575 b B → Ints 12 2097150 s C → Ints 12 1048575 late L → b.length = a.length → s.length = a.length → late.length = c + a.length →
    (∀ i, C.getD i (0, 0) = addZ (A.getD i (0, 0)) (B.getD i (0, 0))) → (∀ i, i < c → L.getD i (0, 0) = (0, 0)) → (∀ i, L.getD (c + i) (0, 0) = A.getD i (0, 0)) → Ev (fun k => foghornlaw11_FeedbackAdds.l0 k t x y a b s late (i : Int)) true := by
  induction d with
  | zero =>
    intro i a b s late A B C L hi ha hA hB hC hL hb hs hl eC h0 h1
    rw [← ha]
    exact adds_end t a b s late c hc20 hf hT hA hB hC hL hb hs hl (by omega) eC h0 h1 x y (by omega)
  | succ d ih =>
    intro i a b s late A B C L hi ha hA hB hC hL hb hs hl eC h0 h1
    have hix : i < x.length := by omega
    obtain ⟨_, z1, z2⟩ := hX.2 i hix
    have lA := hA.len
    have lB := hB.len
    have lC := hC.len
    have lL := hL.len
    have step : ∀ (v : Nat × Nat) (V : Int × Int) (u : Nat × Nat), IsZ v V 12 → Box 1048575 V → IsZ u (addZ (X.getD i (0, 0)) V) 12 →
        Ev (fun k => foghornlaw11_FeedbackAdds.l0 k t x y (a ++ [x[i].f0]) (b ++ [v]) (s ++ [u]) (late ++ [x[i].f0]) ((i + 1 : Nat) : Int)) true := by
      intro v V u hv hV hu
      have hU : Box 2097150 (addZ (X.getD i (0, 0)) V) := by
        unfold Box addZ at *
        dsimp only
        omega
      refine ih (i + 1) _ _ _ _ (A ++ [X.getD i (0, 0)]) (B ++ [V]) (C ++ [addZ (X.getD i (0, 0)) V]) (L ++ [X.getD i (0, 0)]) (by omega) (by rw [List.length_append]; simp; omega) (hA.app z1 z2) (hB.app hv hV) (hC.app hu hU) (hL.app z1 z2) (by simp; omega) (by simp; omega) (by simp; omega) (fun j => ?_) (fun j hj => ?_) (fun j => ?_)
      · rw [getD_app, getD_app, getD_app, eC, lA, lB, lC, hb, hs]
        by_cases c1 : j < a.length
        · rw [if_pos c1, if_pos c1, if_pos c1]
        · rw [if_neg c1, if_neg c1, if_neg c1]
          by_cases c2 : j = a.length
          · rw [if_pos c2, if_pos c2, if_pos c2]
          · rw [if_neg c2, if_neg c2, if_neg c2]; rfl
      · rw [getD_app, if_pos (by omega), h0 j hj]
      · rw [getD_app, getD_app, h1, lA, lL, hl]
        by_cases c1 : j < a.length
        · rw [if_pos c1, if_pos (by omega)]
        · rw [if_neg c1, if_neg (by omega)]
          by_cases c2 : j = a.length
          · rw [if_pos c2, if_pos (by omega)]
          · rw [if_neg c2, if_neg (by omega)]
    by_cases hiy : i < y.length
    · obtain ⟨_, y1, y2⟩ := hY.2 i hiy
      have z2' := z2
      have y2' := y2
      unfold Box at z2' y2'
      obtain ⟨u, u1, u2⟩ := z1.1.add y1.1 (by omega)
      obtain ⟨v, v1, v2⟩ := z1.2.add y1.2 (by omega)
      refine Ev.stepTo _ (fun k _ => ?_) (step y[i].f0 _ (u, v) y1 y2 ⟨u2, v2⟩)
      rw [foghornlaw11_FeedbackAdds.l0, if_pos (by omega), if_pos (by omega), if_pos (by omega), if_pos (by omega), if_pos (by omega), rd101' _ _ hix, rd101' _ _ hiy, u1, Option.bind_some, v1, Option.bind_some, if_pos (by omega), if_pos (by omega), wrap_id _ (by omega) (by omega), show ((i : Int) + 1) = ((i + 1 : Nat) : Int) from by omega]
    · have z2' := z2
      unfold Box at z2'
      obtain ⟨u, u1, u2⟩ := z1.1.add (is_zero 12) (by omega)
      obtain ⟨v, v1, v2⟩ := z1.2.add (is_zero 12) (by omega)
      refine Ev.stepTo _ (fun k _ => ?_) (step (0, 0) (0, 0) (u, v) ⟨is_zero 12, is_zero 12⟩ ⟨by decide, by decide⟩ ⟨u2, v2⟩)
      rw [foghornlaw11_FeedbackAdds.l0, if_pos (by omega), if_neg (by omega), if_pos (by omega), if_pos (by omega), if_pos (by omega), rd101' _ _ hix, u1, Option.bind_some, v1, Option.bind_some, if_pos (by omega), if_pos (by omega), wrap_id _ (by omega) (by omega), show ((i : Int) + 1) = ((i + 1 : Nat) : Int) from by omega]
theorem noughts (c : Nat) : Ints 12 1048575 (List.replicate c (0, 0)) (List.replicate c (0, 0)) := by
  refine ⟨by rw [List.length_replicate, List.length_replicate], fun i hi => ?_⟩
  rw [List.length_replicate] at hi
  rw [List.getElem_replicate, List.getD_eq_getElem?_getD, List.getElem?_replicate, if_pos hi]
  exact ⟨⟨is_zero 12, is_zero 12⟩, by decide, by decide⟩
theorem noughts_at (c i : Nat) : (List.replicate c ((0 : Int), (0 : Int))).getD i (0, 0) = (0, 0) := by
  rw [List.getD_eq_getElem?_getD, List.getElem?_replicate]
  split <;> rfl
theorem adds_j0 (l m : List S146) (a5 : Int) (t : List (Nat × Nat)) {t0 : Nat × Nat} (hf : Fine t t0) (hl : l.length ≤ 300) (hm : m.length ≤ 5000000000000)
    (hw : ∀ x ∈ l, ((Lit.int .i32 x.f0).wf = true) ∧ ((Lit.int .i32 x.f1).wf = true) ∧ True) (hw' : ∀ x ∈ m, ((Lit.int .i32 x.f0).wf = true) ∧ ((Lit.int .i32 x.f1).wf = true) ∧ True) : Ev (fun k => foghornlaw11_FeedbackAdds.j0 k l m a5 t) true := by
  obtain ⟨T, hT⟩ := Ints.of t hf.taps.1
  obtain ⟨x, X, x1, x2, x3⟩ := near_ev l (by omega) hw
  obtain ⟨y, Y, y1, y2, y3⟩ := near_ev m hm hw'
  obtain ⟨c, hc, hc20⟩ := turns a5 20 (by decide) (by decide)
  rw [show ((20 : Nat) : Int) = 20 from rfl] at hc
  have key := adds_l0 t c hc20 hf hT x y x2 y2 (by omega) (by omega) x.length 0 [] [] [] (List.replicate c (0, 0)) [] [] [] (List.replicate c (0, 0)) (by omega) rfl (Ints.nil _ _) (Ints.nil _ _) (Ints.nil _ _) (noughts c) rfl rfl (by rw [List.length_replicate]; rfl) (fun i => rfl) (fun i _ => noughts_at c i) (fun i => by rw [noughts_at]; rfl)
  refine Ev.stepTo _ (fun k _ => by rw [foghornlaw11_FeedbackAdds.j0]) (Ev.bind x1 (Ev.bind y1 (Ev.congr (fun k => ?_) key)))
  rw [hc, Int.toNat_natCast, if_pos (by omega), if_pos (by simp; omega), List.nil_append]
  rfl
theorem sum4 {α : Type} (l : List α) : ((l.map (fun _ : α => (1 + 1 + 1 + 1))).sum) = 4 * l.length := by
  induction l with
  | nil => rfl
  | cons a t ih => rw [List.map_cons, List.sum_cons, ih, List.length_cons]; omega
end Go.Proofs.Ythfcafllcgjepaa.Feed
namespace Go.Proofs.Ythfcafllcgjepaa.Pure
open Go.RowKit Go.Proofs.Ythfcafllcgjepaa.Q Go.Proofs.YthfcafllcgjepaaW.PrintWords Go.Proofs.YthfcafllcgjepaaW.PrintLast Go.Proofs.Ythfcafllcgjepaa.Feed
theorem FeedbackAdds : foghornlaw11_FeedbackAdds.Pure := by
  intro a0 a1 l2 l3 l4 a5 _ _ h2 h3 h4 _ hk
  rw [sum4, sum4, sum4] at hk
  obtain ⟨t, t0, s, q, σ, m, t1, t2, _⟩ := may_ev a0 a1 l2 (by omega)
  have key : Ev (fun k => foghornlaw11_FeedbackAdds.f k a0 a1 l2 l3 l4 a5) true := by
    refine Ev.congr (fun k => by rw [foghornlaw11_FeedbackAdds.f]) (Ev.bind awake11 (Ev.congr (fun k => by rw [if_pos rfl]) (Ev.bind t1 ?_)))
    by_cases c : l3.length > 300
    · exact Ev.congr (fun k => by rw [if_pos (by omega), if_pos (by omega)]) (adds_j0 (l3.take 300) l4 a5 t t2 (by rw [List.length_take]; omega) (by omega) (fun x hx => h3.2 x (List.mem_of_mem_take hx)) h4.2)
    · exact Ev.congr (fun k => by rw [if_neg (by omega)]) (adds_j0 l3 l4 a5 t t2 (by omega) (by omega) h3.2 h4.2)
  exact key.rounds
end Go.Proofs.Ythfcafllcgjepaa.Pure
