import Derived.Test.YtncoakokdajibaaMendOverMendLaw
import Derived.Test.YtncoakokdajibaaMendOverF1
/- A codeword laid over a word is laid over what is told; what stands at lost places says nothing; words are mended each by itself. -/
namespace Go.Proofs.Ytncoakokdajibaa.Sem
open Go.RowKit Go.Proofs.Ytncoakokdajibaa.Q Go.Proofs.YtncoakokdajibaaW.PrintWords Go.Proofs.YtncoakokdajibaaW.PrintLast Go.Proofs.YtncoakokdajibaaW.PrintMore Go.Proofs.Ytncoakokdajibaa.Gf
theorem mend_yes {w m : List F} {r : Int} {l : List Int} (hfit : Fits w.length r) (hg : Good w.length l) (hl : l.length ≤ 140737488351232) (h : Reach w m r.toNat l) : Ev (fun k => mend_Mend.f k (B w) r l) (B m, Lz (bad (lay w m) w.length (isf l)), Lz (gone w.length (isf l)), 0) := by
  have hn := hfit.bounds
  have hr : ((r.toNat : Nat) : Int) = r := by omega
  rcases Mend_ev w r l hl with ⟨h', _⟩ | ⟨_, ⟨c, hc, hm⟩ | ⟨h', _⟩⟩
  · exact absurd ⟨hfit, hg⟩ h'
  · obtain rfl := Reach.one (r := r.toNat) (by rw [hr]; exact hfit) hg h hc
    exact hm
  · exact absurd h (h' m)
theorem mend_none {w : List F} {r : Int} {l : List Int} (hfit : Fits w.length r) (hg : Good w.length l) (hl : l.length ≤ 140737488351232) (h : ∀ m, ¬ Reach w m r.toNat l) : Ev (fun k => mend_Mend.f k (B w) r l) (⟨#[]⟩, [], [], 9) := by
  rcases Mend_ev w r l hl with ⟨h', _⟩ | ⟨_, ⟨c, hc, hm⟩ | ⟨_, hm⟩⟩
  · exact absurd ⟨hfit, hg⟩ h'
  · exact absurd hc (h c)
  · exact hm
theorem bad_congr {e e' : List F} {n : Nat} {is : Nat → Bool} (h : ∀ i, i < n → is i = false → at_ e i = at_ e' i) : bad e n is = bad e' n is :=
  List.filter_congr (fun i hi => by
    cases hc : is i with
    | true => rfl
    | false => rw [h i (List.mem_range.1 hi) hc])
theorem lay_lay {w c : List F} (h : c.length = w.length) : lay (lay w c) c = w := by
  have h1 : (lay w c).length = w.length := lay_length h.symm
  refine ext_at ?_ (fun n _ => ?_)
  · rw [lay_length (by rw [h1, h]), h1]
  · rw [at_lay _ _ _ (by rw [h1, h]), at_lay _ _ _ h.symm, add_assoc, add_self, add_zero]
theorem bad_over {w m c : List F} (hc : c.length = w.length) (hm : m.length = w.length) (n : Nat) (is : Nat → Bool) : bad (lay (lay w c) (lay m c)) n is = bad (lay w m) n is :=
  bad_congr (fun i _ _ => by
    have h1 : (lay w c).length = w.length := lay_length hc.symm
    have h2 : (lay m c).length = m.length := lay_length (hm.trans hc.symm)
    rw [at_lay _ _ _ (by rw [h1, h2, hm]), at_lay _ _ _ hc.symm, at_lay _ _ _ (hm.trans hc.symm), at_lay _ _ _ hm.symm, add_assoc, add_left_comm (at_ c i), add_self, add_zero])
theorem reach_over {w m c : List F} {r : Nat} {l : List Int} (hc : c.length = w.length) (hcc : Code r c) (h : Reach w m r l) : Reach (lay w c) (lay m c) r l := by
  have h1 : (lay w c).length = w.length := lay_length hc.symm
  have h2 : (lay m c).length = m.length := lay_length (h.1.trans hc.symm)
  refine ⟨by rw [h1, h2]; exact h.1, h.2.1.lay hcc (h.1.trans hc.symm), ?_⟩
  rw [h1, bad_over hc h.1]
  exact h.2.2
theorem reach_back {w m c : List F} {r : Nat} {l : List Int} (hc : c.length = w.length) (hcc : Code r c) (h : Reach (lay w c) m r l) : Reach w (lay m c) r l := by
  have h1 : (lay w c).length = w.length := lay_length hc.symm
  have h2 := reach_over (c := c) (by rw [h1, hc]) hcc h
  rwa [lay_lay hc] at h2
theorem reach_gone {w g m : List F} {r : Nat} {l : List Int} (hl : g.length = w.length) (hg : ∀ i, isf l i = false → at_ g i = at_ w i) (h : Reach w m r l) : Reach g m r l ∧ bad (lay g m) w.length (isf l) = bad (lay w m) w.length (isf l) := by
  have hb : bad (lay g m) w.length (isf l) = bad (lay w m) w.length (isf l) := bad_congr (fun i _ hi => by rw [at_lay _ _ _ (hl.trans h.1.symm), at_lay _ _ _ h.1.symm, hg i hi])
  exact ⟨⟨h.1.trans hl.symm, h.2.1, by rw [hl, hb]; exact h.2.2⟩, hb⟩
theorem over_l6 (s c m : List F) (hc : c.length = s.length) (hm : m.length = s.length) (hs : s.length ≤ 255) (x1 x2 y1 y2 z1 z2 : List Int) (zw : ByteArray) (h1 : y1 = x1) (h2 : z1 = x1) (hx : x1.length ≤ 1000) (d : Nat) : ∀ i, i + d = s.length →
    Ev (fun k => foghornlaw20_MendOver.l6 k (B s) (B c) (i : Int) (B m) x1 x2 (B (lay m c)) y1 y2 zw z1 z2) true := by
  induction d with
  | zero =>
    intro i hi
    refine Ev.stepTo _ (fun k _ => by rw [foghornlaw20_MendOver.l6, if_neg (by rw [B_size]; omega), h1, h2]) ?_
    refine Ev.bind (numbers_ev x1 hx) ?_
    refine Ev.congr (fun k => by rw [if_pos rfl]) ?_
    exact Ev.bind (numbers_ev x1 hx) (Ev.now _)
  | succ d ih =>
    intro i hi
    have hl : (lay m c).length = s.length := by rw [lay_length (hm.trans hc.symm)]; exact hm
    refine Ev.stepTo _ (fun k _ => ?_) (ih (i + 1) (by omega))
    rw [foghornlaw20_MendOver.l6, if_pos (by rw [B_size]; omega), if_pos (by omega), if_pos (by rw [B_size]; omega), if_pos (by rw [B_size]; omega), if_pos (by rw [B_size]; omega), bt_B, bt_B, bt_B, bx, Int.toNat_natCast, at_lay _ _ _ (hm.trans hc.symm), if_pos rfl, wrap_id _ (by omega) (by omega), show ((i : Int) + 1) = ((i + 1 : Nat) : Int) from by omega]
theorem all_ev {W : List ByteArray} {P : List (List Int)} {r : Int} (hr : isChecks r = true) (hr2 : 2 ≤ r ∧ r ≤ 64) (hl : W.length = P.length) (hm : W.length ≤ 32768) {X : List S64 × List Int × Int} (h : Ev (fun k => al_run k r W P 0 [] []) X) : Ev (fun k => mend_All.f k W r P) X := by
  refine Ev.congr (fun k => ?_) h
  rw [mend_All.f, wrap_id _ (by omega) (by omega), check_fits ⟨hr, by omega, by omega⟩, Option.bind_some, if_pos ⟨rfl, hl, hm⟩]
theorem al_next {r : Int} {s : ByteArray} {l : List Int} {ss : List ByteArray} {ll : List (List Int)} {i : Nat} {out : List S64} {ref : List Int} {m : ByteArray × List Int × List Int × Int} {X : List S64 × List Int × Int} (h : Ev (fun k => mend_Mend.f k s r l) m) (h1 : m.2.2.2 ≠ 1) (h2 : Ev (fun k => al_run k r ss ll (i + 1) (al_step i out ref m).1 (al_step i out ref m).2) X) : Ev (fun k => al_run k r (s :: ss) (l :: ll) i out ref) X := by
  refine Ev.congr (fun k => by rw [al_run]) ?_
  refine Ev.bind h ?_
  exact Ev.congr (fun k => by rw [if_neg h1]) h2
theorem reach_self (s : List F) (r : Nat) (h : Code r s) : Reach s s r [] := by
  refine ⟨rfl, h, ?_⟩
  have hz : bad (lay s s) s.length (isf []) = [] := List.filter_eq_nil_iff.2 (fun i _ hi => by
    rw [lay_self] at hi
    unfold nz at hi
    rw [at_replicate] at hi
    simp at hi)
  rw [hz]
  exact Nat.zero_le _
theorem nope0 : ¬ (((((([] : List Int).length : Nat) : Int) == 0) != ((0 : Int) == 0)) = true) := by decide
theorem nope2 : ¬ (((((([0, 2] : List Int).length : Nat) : Int) == 0) != ((9 : Int) == 0)) = true) := by decide
theorem over_end (s w c g : List F) (r : Int) (hfit : Fits s.length r) (hcs : Code r.toNat s) (hw : w.length = s.length) (hc : c.length = s.length) (hcc : Code r.toNat c) (hgl : g.length = s.length) (pl : List Int) (hg : Good s.length pl) (hpl : pl.length ≤ 255) (hgw : ∀ i, isf pl i = false → at_ g i = at_ w i) :
    Ev (fun k => foghornlaw20_MendOver.l5 k r (B s) (L w) (B c) (L (lay w c)) (L g) pl (s.length : Int)) true := by
  have hn := hfit.bounds
  have hr : ((r.toNat : Nat) : Int) = r := by omega
  have hol : (lay w c).length = s.length := by rw [lay_length (hw.trans hc.symm)]; exact hw
  have hfw : Fits w.length r := by rw [hw]; exact hfit
  have hfo : Fits (lay w c).length r := by rw [hol]; exact hfit
  have hfg : Fits g.length r := by rw [hgl]; exact hfit
  have hgw' : Good w.length pl := by rw [hw]; exact hg
  have hgo : Good (lay w c).length pl := by rw [hol]; exact hg
  have hgg : Good g.length pl := by rw [hgl]; exact hg
  have hg0 : Good s.length [] := ⟨fun x hx => (nomatch hx), List.nodup_nil⟩
  have hms := mend_yes hfit hg0 (by simp) (reach_self s r.toNat hcs)
  by_cases hR : ∃ m, Reach w m r.toNat pl
  · obtain ⟨m, hm⟩ := hR
    have e1 := mend_yes hfw hgw' (by omega) hm
    have hml : m.length = s.length := hm.1.trans hw
    have hmc : (lay m c).length = s.length := by rw [lay_length (hml.trans hc.symm)]; exact hml
    have e2 := mend_yes hfo hgo (by omega) (reach_over (c := c) (hc.trans hw.symm) hcc hm)
    obtain ⟨hmg, hbg⟩ := reach_gone (g := g) (hgl.trans hw.symm) hgw hm
    have e3 := mend_yes hfg hgg (by omega) hmg
    rw [hol, bad_over (hc.trans hw.symm) hm.1] at e2
    rw [hgl, ← hw, hbg] at e3
    rw [hw] at e1 e3
    have hbl := bad_le (lay w m) s.length (isf pl)
    obtain ⟨x1, hx1⟩ : ∃ x1, x1 = Lz (bad (lay w m) s.length (isf pl)) := ⟨_, rfl⟩
    have hx1l : x1.length ≤ 1000 := by rw [hx1, Lz_length]; omega
    rw [← hx1] at e1 e2 e3
    obtain ⟨x2, hx2⟩ : ∃ x2, x2 = Lz (gone s.length (isf pl)) := ⟨_, rfl⟩
    rw [← hx2] at e1 e2 e3
    have e4 : ∃ A : List S64, Ev (fun k => mend_All.f k [B w, B s, B (lay w c)] r [pl, [], pl]) (A, [], 0) ∧ (A.length : Int) = 3 ∧ (rd_T64 A 0).f0 = B m ∧ (rd_T64 A 1).f0 = B s ∧ (rd_T64 A 2).f0 = B (lay m c) := by
      refine ⟨[⟨B m, x1, x2⟩, ⟨B s, Lz (bad (lay s s) s.length (isf [])), Lz (gone s.length (isf []))⟩, ⟨B (lay m c), x1, x2⟩], ?_, rfl, rfl, rfl, rfl⟩
      refine all_ev (W := [B w, B s, B (lay w c)]) hfit.1 (by omega) rfl (show (3 : Nat) ≤ 32768 by decide) ?_
      refine al_next e1 (by show (0 : Int) ≠ 1; decide) (al_next hms (by show (0 : Int) ≠ 1; decide) (al_next e2 (by show (0 : Int) ≠ 1; decide) (Ev.congr (fun k => ?_) (Ev.now _))))
      rw [al_run]
      simp [al_step]
    obtain ⟨A, e4, hA, hA0, hA1, hA2⟩ := e4
    replace hA0 := congrArg ByteArray.toList hA0
    replace hA1 := congrArg ByteArray.toList hA1
    replace hA2 := congrArg ByteArray.toList hA2
    refine Ev.stepTo _ (fun k _ => by rw [foghornlaw20_MendOver.l5, if_neg (by rw [B_size]; omega), strOf, strOf, strOf]) ?_
    refine Ev.bind e1 (Ev.bind e2 (Ev.bind e3 (Ev.bind e4 ?_)))
    refine Ev.congr (fun k => by rw [if_pos rfl, if_pos rfl, if_pos rfl, if_pos hA, if_pos rfl, if_pos (show (0 : Int) < (A.length : Int) by omega), if_pos hA0, if_pos (show (1 : Int) < (A.length : Int) by omega), if_pos hA1, if_pos (show (2 : Int) < (A.length : Int) by omega), if_pos hA2, if_neg nope0, if_pos (show (((([] : List Int).length : Nat) : Int)) = 0 from rfl)]) ?_
    refine Ev.stepTo _ (fun k _ => by rw [foghornlaw20_MendOver.j8, if_neg (by decide), if_pos rfl]) ?_
    exact over_l6 s c m hc hml (by omega) x1 x2 x1 x2 x1 x2 (B m) rfl rfl hx1l s.length 0 (Nat.zero_add _)
  · have h1 : ∀ m, ¬ Reach w m r.toNat pl := fun m h => hR ⟨m, h⟩
    have e1 := mend_none hfw hgw' (by omega) h1
    have e2 := mend_none hfo hgo (by omega) (fun m h => h1 _ (reach_back (hc.trans hw.symm) hcc h))
    have e3 := mend_none hfg hgg (by omega) (fun m h => h1 _ (reach_gone (hw.trans hgl.symm) (fun i hi => (hgw i hi).symm) h).1)
    have e4 : ∃ A : List S64, Ev (fun k => mend_All.f k [B w, B s, B (lay w c)] r [pl, [], pl]) (A, [0, 2], 0) ∧ (A.length : Int) = 3 ∧ (rd_T64 A 0).f0 = ⟨#[]⟩ ∧ (rd_T64 A 1).f0 = B s ∧ (rd_T64 A 2).f0 = ⟨#[]⟩ := by
      refine ⟨[⟨⟨#[]⟩, [], []⟩, ⟨B s, Lz (bad (lay s s) s.length (isf [])), Lz (gone s.length (isf []))⟩, ⟨⟨#[]⟩, [], []⟩], ?_, rfl, rfl, rfl, rfl⟩
      refine all_ev (W := [B w, B s, B (lay w c)]) hfit.1 (by omega) rfl (show (3 : Nat) ≤ 32768 by decide) ?_
      refine al_next e1 (by show (9 : Int) ≠ 1; decide) (al_next hms (by show (0 : Int) ≠ 1; decide) (al_next e2 (by show (9 : Int) ≠ 1; decide) (Ev.congr (fun k => ?_) (Ev.now _))))
      rw [al_run]
      simp [al_step]
    obtain ⟨A, e4, hA, hA0, hA1, hA2⟩ := e4
    replace hA0 := congrArg ByteArray.toList hA0
    replace hA1 := congrArg ByteArray.toList hA1
    replace hA2 := congrArg ByteArray.toList hA2
    refine Ev.stepTo _ (fun k _ => by rw [foghornlaw20_MendOver.l5, if_neg (by rw [B_size]; omega), strOf, strOf, strOf]) ?_
    refine Ev.bind e1 (Ev.bind e2 (Ev.bind e3 (Ev.bind e4 ?_)))
    refine Ev.congr (fun k => by rw [if_pos rfl, if_pos rfl, if_pos rfl, if_pos hA, if_pos rfl, if_pos (show (0 : Int) < (A.length : Int) by omega), if_pos hA0, if_pos (show (1 : Int) < (A.length : Int) by omega), if_pos hA1, if_pos (show (2 : Int) < (A.length : Int) by omega), if_pos hA2, if_neg nope2, if_neg (show ¬ ((([0, 2] : List Int).length : Nat) : Int) = 0 from by decide), show (((([0, 2] : List Int).length : Nat) : Int) != 2) = false from rfl]) ?_
    exact Ev.stepTo _ (fun k _ => by rw [foghornlaw20_MendOver.j8, if_neg (by decide), if_neg (show ¬ (9 : Int) = 0 from by decide)]; rfl) (Ev.now _)
theorem over_l5 (s w c g : List F) (r : Int) (hfit : Fits s.length r) (hcs : Code r.toNat s) (hw : w.length = s.length) (hc : c.length = s.length) (hcc : Code r.toNat c) (hgl : g.length = s.length) (pl : List Int) (hg : Good s.length pl) (hpl : pl.length ≤ 255) (hgw : ∀ i, isf pl i = false → at_ g i = at_ w i) (d : Nat) : ∀ (i : Nat) (o : List F), i + d = s.length → o.length = s.length → (∀ m, m < i → at_ o m = at_ w m + at_ c m) →
    Ev (fun k => foghornlaw20_MendOver.l5 k r (B s) (L w) (B c) (L o) (L g) pl (i : Int)) true := by
  have hn := hfit.bounds
  induction d with
  | zero =>
    intro i o hi ho h
    obtain rfl : i = s.length := by omega
    have : o = lay w c := ext_at (by rw [ho, lay_length (hw.trans hc.symm), hw]) (fun n h1 => by rw [h n (by omega), at_lay _ _ _ (hw.trans hc.symm)])
    rw [this]
    exact over_end s w c g r hfit hcs hw hc hcc hgl pl hg hpl hgw
  | succ d ih =>
    intro i o hi ho h
    refine Ev.stepTo _ (fun k _ => ?_) (ih (i + 1) (o.set i (at_ w i + at_ c i)) (by omega) (by rw [List.length_set]; exact ho) (fun m hm => ?_))
    · rw [foghornlaw20_MendOver.l5, if_pos (by rw [B_size]; omega), if_pos (by omega), if_pos (by rw [L_length]; omega), if_pos (by rw [B_size]; omega), if_pos (by rw [L_length]; omega), rd_L, bt_B, bx, Int.toNat_natCast, L_set, wrap_id _ (by omega) (by omega), show ((i : Int) + 1) = ((i + 1 : Nat) : Int) from by omega]
    · rw [at_set _ _ _ _ (by omega)]
      by_cases e : m = i
      · rw [if_pos e, e]
      · rw [if_neg e]
        exact h m (by omega)
theorem isf_take (l : List Int) (p j : Nat) (hj : j < l.length) : isf (l.take (j + 1)) p = (isf (l.take j) p || (rd l (j : Int) == (p : Int))) := by
  have hrd : rd l (j : Int) = l[j] := by
    unfold rd
    rw [Int.toNat_natCast, List.getD_eq_getElem?_getD, List.getElem?_eq_getElem (by omega)]
    rfl
  rw [hrd]
  unfold isf
  rw [List.take_add_one, List.getElem?_eq_getElem (by omega), Bool.eq_iff_iff, Bool.or_eq_true, decide_eq_true_iff, decide_eq_true_iff, beq_iff_eq, List.mem_append]
  refine or_congr Iff.rfl ?_
  show (p : Int) ∈ [l[j]] ↔ _
  rw [List.mem_singleton]
  exact eq_comm
theorem over_l4 (r : Int) (l : List Int) (b : F) (s w c : List F) (x18 : List Int) (g : List F) (hgl : g.length = s.length) (pl : List Int) (hpl : pl.length ≤ 255) (i p : Nat) (hp : p < s.length) (hi : i < l.length) (hll : l.length ≤ 140737488351232)
    (H1 : isf pl p = true → Ev (fun k => foghornlaw20_MendOver.l3 k r l (I b) (B s) (L w) (B c) x18 (L g) pl ((i + 1 : Nat) : Int)) true)
    (H0 : isf pl p = false → Ev (fun k => foghornlaw20_MendOver.l3 k r l (I b) (B s) (L w) (B c) x18 (L (g.set p b)) (pl ++ [(p : Int)]) ((i + 1 : Nat) : Int)) true) (d : Nat) : ∀ j, j + d = pl.length →
    Ev (fun k => foghornlaw20_MendOver.l4 k r l (I b) (B s) (L w) (B c) x18 (L g) pl (i : Int) (p : Int) (isf (pl.take j) p) (j : Int)) true := by
  induction d with
  | zero =>
    intro j hj
    rw [List.take_of_length_le (show pl.length ≤ j by omega)]
    cases hf : isf pl p with
    | true => exact Ev.stepTo _ (fun k _ => by rw [foghornlaw20_MendOver.l4, if_neg (by omega), if_pos rfl, wrap_id _ (by omega) (by omega), show ((i : Int) + 1) = ((i + 1 : Nat) : Int) from by omega]) (H1 hf)
    | false => exact Ev.stepTo _ (fun k _ => by rw [foghornlaw20_MendOver.l4, if_neg (by omega), if_neg (by decide), if_pos (by omega), if_pos (by omega), if_pos (by rw [L_length]; omega), Int.toNat_natCast, L_set, wrap_id _ (by omega) (by omega), show ((i : Int) + 1) = ((i + 1 : Nat) : Int) from by omega]) (H0 hf)
  | succ d ih =>
    intro j hj
    have h1 := ih (j + 1) (by omega)
    rw [isf_take pl p j (by omega)] at h1
    cases hf : isf (pl.take j) p with
    | true =>
      rw [hf, Bool.true_or] at h1
      exact Ev.stepTo _ (fun k _ => by rw [foghornlaw20_MendOver.l4, if_pos (by omega), if_pos rfl, wrap_id _ (by omega) (by omega), show ((j : Int) + 1) = ((j + 1 : Nat) : Int) by omega]) h1
    | false =>
      rw [hf, Bool.false_or] at h1
      exact Ev.stepTo _ (fun k _ => by rw [foghornlaw20_MendOver.l4, if_pos (by omega), if_neg (by decide), if_pos (by omega), wrap_id _ (by omega) (by omega), show ((j : Int) + 1) = ((j + 1 : Nat) : Int) by omega]) h1
theorem good_snoc {n : Nat} {l : List Int} {p : Nat} (hg : Good n l) (hp : p < n) (h : isf l p = false) : Good n (l ++ [(p : Int)]) := by
  refine ⟨fun y hy => (List.mem_append.1 hy).elim (hg.1 y) (fun hy => by rw [List.mem_singleton.1 hy]; omega), ?_⟩
  rw [List.nodup_append]
  refine ⟨hg.2, by simp, fun a ha b hb hab => ?_⟩
  rw [List.mem_singleton.1 hb] at hab
  exact of_decide_eq_false h (hab ▸ ha)
theorem good_le {n : Nat} {l : List Int} (hg : Good n l) : l.length ≤ n := by
  rw [← gone_count n l hg]
  exact gone_le n _
theorem over_l3 (s w c : List F) (r : Int) (hfit : Fits s.length r) (hcs : Code r.toNat s) (hw : w.length = s.length) (hc : c.length = s.length) (hcc : Code r.toNat c) (l : List Int) (hl : l.length ≤ 140737488351232) (b : F) (d : Nat) : ∀ (i : Nat) (g : List F) (pl : List Int), i + d = l.length → g.length = s.length → Good s.length pl → (∀ i, isf pl i = false → at_ g i = at_ w i) →
    Ev (fun k => foghornlaw20_MendOver.l3 k r l (I b) (B s) (L w) (B c) (L (List.replicate s.length 0)) (L g) pl (i : Int)) true := by
  have hn := hfit.bounds
  induction d with
  | zero =>
    intro i g pl hi hgl hg hgw
    have := good_le hg
    refine Ev.stepTo _ (fun k _ => by rw [foghornlaw20_MendOver.l3, if_neg (by omega)]) ?_
    exact over_l5 s w c g r hfit hcs hw hc hcc hgl pl hg (by omega) hgw s.length 0 _ (Nat.zero_add _) (by rw [List.length_replicate]) (fun m hm => absurd hm (by omega))
  | succ d ih =>
    intro i g pl hi hgl hg hgw
    have hpl := good_le hg
    obtain ⟨p, hp, hp2⟩ : ∃ p : Nat, (rd l (i : Int)) % (s.length : Int) = (p : Int) ∧ p < s.length := ⟨((rd l (i : Int)) % (s.length : Int)).toNat, by have := Int.emod_nonneg (rd l (i : Int)) (show (s.length : Int) ≠ 0 by omega); omega, by have := Int.emod_lt_of_pos (rd l (i : Int)) (show (0 : Int) < s.length by omega); have := Int.emod_nonneg (rd l (i : Int)) (show (s.length : Int) ≠ 0 by omega); omega⟩
    have hmod : Int.tmod (wrap64 ((Int.tmod (rd l (i : Int)) (s.length : Int)) + (s.length : Int))) (s.length : Int) = (p : Int) := (modm _ (by omega) (by omega) _).trans hp
    have h := over_l4 r l b s w c (L (List.replicate s.length 0)) g hgl pl (by omega) i p hp2 (by omega) hl (fun _ => ih (i + 1) g pl (by omega) hgl hg hgw) (fun hf => ih (i + 1) (g.set p b) (pl ++ [(p : Int)]) (by omega) (by rw [List.length_set]; exact hgl) (good_snoc hg hp2 hf) (fun m hm => by
      have hne : m ≠ p := fun e => by
        unfold isf at hm
        exact of_decide_eq_false hm (List.mem_append_right _ (List.mem_singleton.2 (by rw [e])))
      rw [at_set _ _ _ _ (by omega), if_neg hne]
      refine hgw m ?_
      unfold isf at hm ⊢
      exact decide_eq_false (fun hc => of_decide_eq_false hm (List.mem_append_left _ hc)))) pl.length 0 (Nat.zero_add _)
    refine Ev.stepTo _ (fun k _ => ?_) h
    rw [foghornlaw20_MendOver.l3, if_pos (by omega), if_pos (by omega), B_size, if_neg (by omega), hmod]
    rfl
theorem over_l2 (s w : List F) (r : Int) (hfit : Fits s.length r) (hcs : Code r.toNat s) (hw : w.length = s.length) (l : List Int) (hl : l.length ≤ 140737488351232) (b : F) : ∀ (m : Nat) (d : List F), d.length ≤ 140737488351232 → s.length - r.toNat ≤ d.length + m →
    Ev (fun k => foghornlaw20_MendOver.l2 k (B d) r l (I b) (B s) (L w)) true
  | m, d, hd2, hm => by
    have hn := hfit.bounds
    have hw1 : wrap64 ((s.length : Int) - r) = (s.length : Int) - r := wrap_id _ (by omega) (by omega)
    by_cases hlt : (d.length : Int) < (s.length : Int) - r
    · have ih := over_l2 s w r hfit hcs hw l hl b (m - d.length - 1) ((d ++ [⟨120, by decide⟩]) ++ d) (by simp only [List.length_append, List.length_singleton]; omega) (by simp only [List.length_append, List.length_singleton]; omega)
      refine Ev.stepTo _ (fun k _ => ?_) ih
      rw [foghornlaw20_MendOver.l2, B_size, B_size, hw1, if_pos hlt, if_pos (by omega), show (⟨#[120]⟩ : ByteArray) = B [⟨120, by decide⟩] from rfl, B_append, B_append, if_pos (by rw [B_size, List.length_append, List.length_singleton]; omega)]
    · have hl1 : (d.take ((s.length : Int) - r).toNat).length = ((s.length : Int) - r).toNat := by rw [List.length_take]; omega
      have hne : d.take ((s.length : Int) - r).toNat ≠ [] := fun h => by rw [h, List.length_nil] at hl1; omega
      have hs : ((d.take ((s.length : Int) - r).toNat).length : Int) + r = (s.length : Int) := by rw [hl1]; omega
      have henc := rencode_ev (d.take ((s.length : Int) - r).toNat) r (by rw [hs]; exact hfit) hne
      refine Ev.stepTo _ (fun k _ => by rw [foghornlaw20_MendOver.l2, B_size, B_size, hw1, if_neg hlt, if_pos (by omega), if_pos (by omega), B_take]) ?_
      refine Ev.bind henc ?_
      have hck := chk_all r.toNat (by omega) (d.take ((s.length : Int) - r).toNat)
      have h := over_l3 s w (d.take ((s.length : Int) - r).toNat ++ chk r.toNat (d.take ((s.length : Int) - r).toNat)) r hfit hcs hw (by rw [List.length_append, hck.1]; omega) hck.2 l hl b l.length 0 w [] (Nat.zero_add _) hw ⟨fun x hx => (nomatch hx), List.nodup_nil⟩ (fun _ _ => rfl)
      refine Ev.congr (fun k => ?_) h
      rw [if_pos (by omega), if_pos (by omega), Option.bind_some, if_pos (by rw [L_length, List.length_nil]; omega), Int.toNat_natCast, L_replicate, List.nil_append]
      rfl
termination_by _ d => s.length - r.toNat - d.length
decreasing_by
  simp only [List.length_append, List.length_singleton]
  omega
theorem over_l1 (s W : List F) (r : Int) (more : ByteArray) (l : List Int) (b : Int) (hs : s.length ≤ 255) (hW : s.length ≤ W.length) (H : ∀ w : List F, w.length = s.length → Ev (fun k => foghornlaw20_MendOver.l2 k more r l b (B s) (L w)) true) (d : Nat) : ∀ (i : Nat) (w : List F), i + d = s.length → w.length = s.length →
    Ev (fun k => foghornlaw20_MendOver.l1 k more r (B W) l b (B s) (L w) (i : Int)) true := by
  induction d with
  | zero =>
    intro i w hi hw
    exact Ev.stepTo _ (fun k _ => by rw [foghornlaw20_MendOver.l1, if_neg (by rw [L_length]; omega)]) (H w hw)
  | succ d ih =>
    intro i w hi hw
    by_cases hz : Int.tmod (bt (B W) (i : Int)) 16 = 0
    · refine Ev.stepTo _ (fun k _ => ?_) (ih (i + 1) (w.set i (at_ W i)) (by omega) (by rw [List.length_set]; exact hw))
      rw [foghornlaw20_MendOver.l1, if_pos (by rw [L_length]; omega), if_pos (by omega), if_pos (by rw [B_size]; omega), if_pos hz, bt_B, Int.toNat_natCast, L_set, wrap_id _ (by omega) (by omega), show ((i : Int) + 1) = ((i + 1 : Nat) : Int) by omega]
    · refine Ev.stepTo _ (fun k _ => ?_) (ih (i + 1) w (by omega) hw)
      rw [foghornlaw20_MendOver.l1, if_pos (by rw [L_length]; omega), if_pos (by omega), if_pos (by rw [B_size]; omega), if_neg hz, wrap_id _ (by omega) (by omega), show ((i : Int) + 1) = ((i + 1 : Nat) : Int) by omega]
theorem over_l0 (s : List F) (r : Int) (more : ByteArray) (l : List Int) (b : Int) (hs : s.length ≤ 255) (H : ∀ W : List F, s.length ≤ W.length → Ev (fun k => foghornlaw20_MendOver.j2 k more r (B W) l b (B s)) true) : ∀ (m : Nat) (W : List F), W.length ≤ 140737488351232 → s.length ≤ W.length + m →
    Ev (fun k => foghornlaw20_MendOver.l0 k more r (B W) l b (B s)) true
  | m, W, hW, hm => by
    by_cases h0 : W = []
    · refine Ev.stepTo _ (fun k _ => by rw [foghornlaw20_MendOver.l0, if_pos (B_empty.2 h0)]) ?_
      exact Ev.stepTo _ (fun k _ => by rw [foghornlaw20_MendOver.j1, if_pos (B_empty.2 h0)]) (H s (Nat.le_refl _))
    · have hp := List.length_pos_iff.2 h0
      by_cases c : (W.length : Int) < (s.length : Int)
      · have ih := over_l0 s r more l b hs H (m - W.length) (W ++ W) (by rw [List.length_append]; omega) (by rw [List.length_append]; omega)
        exact Ev.stepTo _ (fun k _ => by rw [foghornlaw20_MendOver.l0, if_neg (fun h => h0 (B_empty.1 h)), B_size, B_size, if_pos c, if_pos (by omega), B_append]) ih
      · refine Ev.stepTo _ (fun k _ => by rw [foghornlaw20_MendOver.l0, if_neg (fun h => h0 (B_empty.1 h)), B_size, B_size, if_neg c]) ?_
        exact Ev.stepTo _ (fun k _ => by rw [foghornlaw20_MendOver.j1, if_neg (fun h => h0 (B_empty.1 h))]) (H W (by omega))
termination_by _ W => s.length - W.length
decreasing_by
  rw [List.length_append]
  omega
end Go.Proofs.Ytncoakokdajibaa.Sem
namespace Go.Proofs.Ytncoakokdajibaa.Pure
open Go.RowKit Go.Proofs.Ytncoakokdajibaa.Q Go.Proofs.YtncoakokdajibaaW.PrintWords Go.Proofs.YtncoakokdajibaaW.PrintLast Go.Proofs.YtncoakokdajibaaW.PrintMore Go.Proofs.Ytncoakokdajibaa.Gf Go.Proofs.Ytncoakokdajibaa.Sem
theorem MendOver : foghornlaw20_MendOver.Pure := by
  intro a0 a1 a2 a3 l4 a5 h0 h1 h2 h3 h4 h4' h4'' h5
  obtain ⟨d, rfl⟩ := B_of a0
  obtain ⟨e, rfl⟩ := B_of a1
  obtain ⟨W, rfl⟩ := B_of a3
  obtain ⟨b, rfl⟩ := u8_at h5
  rw [B_size] at h0 h1 h3
  obtain ⟨s, r, hfit, hcode, hs⟩ := sent_ev d h0 a2
  have hb := hfit.bounds
  have hl2 := fun w hw => over_l2 s w r hfit hcode hw l4 (by omega) b s.length e h1 (by omega)
  have hj2 : ∀ W : List F, s.length ≤ W.length → Ev (fun k => foghornlaw20_MendOver.j2 k (B e) r (B W) l4 (I b) (B s)) true := fun W hW => by
    refine Ev.stepTo _ (fun k _ => by rw [foghornlaw20_MendOver.j2, if_pos (by rw [B_size]; omega), bytesOf_B]) ?_
    exact over_l1 s W r (B e) l4 (I b) (by omega) hW hl2 s.length 0 s (Nat.zero_add _) rfl
  have : Ev (fun k => foghornlaw20_MendOver.f k (B d) (B e) a2 (B W) l4 (I b)) true := by
    refine Ev.congr (fun k => by rw [foghornlaw20_MendOver.f]) ?_
    refine Ev.bind awake_ev ?_
    refine Ev.congr (fun k => by rw [if_pos rfl]) ?_
    refine Ev.bind hs ?_
    exact over_l0 s r (B e) l4 (I b) (by omega) hj2 s.length W h3 (by omega)
  obtain ⟨K, hK⟩ := this
  exact ⟨K, hK K (Nat.le_refl _)⟩
end Go.Proofs.Ytncoakokdajibaa.Pure
