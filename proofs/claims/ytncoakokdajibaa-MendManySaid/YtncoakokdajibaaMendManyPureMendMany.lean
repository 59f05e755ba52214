import Derived.Test.YtncoakokdajibaaMendManyRMend4
import Derived.Test.YtncoakokdajibaaMendManyF1
/- Many words with their lost places, and what they say: the program's and the document's. -/
namespace Go.Proofs.Ytncoakokdajibaa.Sem
open Go.RowKit Go.Proofs.Ytncoakokdajibaa.Q Go.Proofs.YtncoakokdajibaaW.PrintWords Go.Proofs.YtncoakokdajibaaW.PrintLast Go.Proofs.YtncoakokdajibaaW.PrintMore Go.Proofs.Ytncoakokdajibaa.Gf
theorem ev_uniq {α : Type} {g : Nat → Option α} {r s : α} (h : Ev g r) (h' : Ev g s) : r = s := by
  obtain ⟨K, hK⟩ := h
  obtain ⟨K', hK'⟩ := h'
  exact Option.some.inj ((hK (max K K') (Nat.le_max_left ..)).symm.trans (hK' (max K K') (Nat.le_max_right ..)))
theorem mend_word (w : List F) (r : Int) (l : List Int) (hl : l.length ≤ 140737488351232) :
    ∃ (s : ByteArray) (P Q : List Int) (e : Int), Ev (fun k => mend_Mend.f k (B w) r l) (s, P, Q, e) ∧ Ev (fun k => foghornref20_Mend.f k (B w) r l) (s, P, Q, e) ∧ P.length ≤ 255 ∧ Q.length ≤ 255 ∧ (e = 1 ∨ (Fits w.length r ∧ (e = 9 ∨ (e = 0 ∧ s.size = w.length)))) := by
  obtain ⟨b, P, Q, e, h1, h2, h3, h4⟩ := RMend_same w r l hl
  refine ⟨B b, Lz P, Lz Q, e, h1, h2, by rw [Lz_length]; exact h3, by rw [Lz_length]; exact h4, ?_⟩
  rcases Mend_ev w r l hl with ⟨_, hM⟩ | ⟨⟨hf, _⟩, ⟨c, hR, hM⟩ | ⟨_, hM⟩⟩
  · have h5 := ev_uniq h1 hM
    simp only [Prod.mk.injEq] at h5
    exact Or.inl h5.2.2.2
  · have h5 := ev_uniq h1 hM
    simp only [Prod.mk.injEq] at h5
    exact Or.inr ⟨hf, Or.inr ⟨h5.2.2.2, by rw [h5.1, B_size]; exact hR.1⟩⟩
  · have h5 := ev_uniq h1 hM
    simp only [Prod.mk.injEq] at h5
    exact Or.inr ⟨hf, Or.inl h5.2.2.2⟩
def Mid (r : Int) (s : ByteArray) : Prop := r < (s.size : Int) ∧ s.size ≤ 255
structure Told20 (r : Int) (A : List S64) (W : List S76) (rf : List Int) (e : Int) : Prop where
  same : W.map (fun x => (x.f0, x.f1, x.f2)) = A.map (fun x => (x.f0, x.f1, x.f2))
  short : ∀ x ∈ A, x.f1.length ≤ 255 ∧ x.f2.length ≤ 255
  len : A.length ≤ 32768
  rlen : rf.length ≤ 32768
  ans : e = 1 ∨ (e = 0 ∧ (rf = [] → ∀ x ∈ A, Mid r x.f0))
theorem told_no20 (r : Int) : Told20 r [] [] [] 1 := ⟨rfl, fun _ h => (nomatch h), by decide, by decide, Or.inl rfl⟩
theorem all_run (r : Int) (ws : List ByteArray) (ls : List (List Int)) (hlen : ws.length = ls.length) (hn : ws.length ≤ 32768) (hls : ∀ l ∈ ls, l.length ≤ 140737488351232) (d : Nat) : ∀ (i : Nat) (o64 : List S64) (o76 : List S76) (rf : List Int), i + d = ws.length → o64.length = i → o76.map (fun x => (x.f0, x.f1, x.f2)) = o64.map (fun x => (x.f0, x.f1, x.f2)) → rf.length ≤ i → (∀ x ∈ o64, x.f1.length ≤ 255 ∧ x.f2.length ≤ 255) → (rf = [] → ∀ x ∈ o64, Mid r x.f0) →
    ∃ (A : List S64) (W : List S76) (rf' : List Int) (e : Int), Ev (fun k => al_run k r (ws.drop i) (ls.drop i) i o64 rf) (A, rf', e) ∧ Ev (fun k => foghornref20_All.l0 k ws r ls o76 rf (i : Int)) (W, rf', e) ∧ Told20 r A W rf' e ∧ (e = 0 → ∀ s ∈ ws.drop i, Mid r s) := by
  induction d with
  | zero =>
    intro i o64 o76 rf hi ho hm hr hs ha
    have hd : ws.drop i = [] := List.drop_eq_nil_of_le (by omega)
    refine ⟨o64, o76, rf, 0, Ev.congr (fun k => by rw [hd, al_run]) (Ev.now _), Ev.stepTo2 _ (fun k _ => by rw [foghornref20_All.l0, if_neg (by omega)]) (Ev.now _), ⟨hm, hs, by omega, by omega, Or.inr ⟨rfl, ha⟩⟩, fun _ s h => ?_⟩
    rw [hd] at h
    cases h
  | succ d ih =>
    intro i o64 o76 rf hi ho hm hr hs ha
    have hi1 : i < ws.length := by omega
    have hi2 : i < ls.length := by omega
    have hd1 := List.drop_eq_getElem_cons hi1
    have hd2 := List.drop_eq_getElem_cons hi2
    obtain ⟨w, hw⟩ := B_of ws[i]
    obtain ⟨l, hl⟩ : ∃ l, l = ls[i] := ⟨_, rfl⟩
    have hr1 : rdOf ByteArray.empty ws (i : Int) = B w := by unfold rdOf; rw [Int.toNat_natCast, List.getD_eq_getElem?_getD, List.getElem?_eq_getElem hi1, hw]; rfl
    have hr2 : rd_L9 ls (i : Int) = l := by unfold rd_L9; rw [Int.toNat_natCast, List.getD_eq_getElem?_getD, List.getElem?_eq_getElem hi2, hl]; rfl
    rw [hw] at hd1
    rw [← hl] at hd2
    have hll : l.length ≤ 140737488351232 := hls l (by rw [hl]; exact List.getElem_mem hi2)
    obtain ⟨s, P, Q, e, h1, h2, hP, hQ, he⟩ := mend_word w r l hll
    have hlen76 : o76.length = i := by have := congrArg List.length hm; rw [List.length_map, List.length_map] at this; omega
    have hw64 := Aside0.mk (show wrap64 ((i : Int) + 1) = ((i + 1 : Nat) : Int) by rw [wrap_id _ (by omega) (by omega)]; omega)
    have gA : ∀ X, Ev (fun k => if e = 1 then some (([] : List S64), ([] : List Int), (1 : Int)) else al_run k r (ws.drop (i + 1)) (ls.drop (i + 1)) (i + 1) (o64 ++ [⟨s, P, Q⟩]) (if e = 9 then rf ++ [(i : Int)] else rf)) X → Ev (fun k => al_run k r (ws.drop i) (ls.drop i) i o64 rf) X := fun X hX => by
      refine Ev.congr (fun k => by rw [hd1, hd2, al_run]) ?_
      exact Ev.bind h1 hX
    have c1 : (i : Int) < (ws.length : Int) := by omega
    have c2 : (0 : Int) ≤ (i : Int) := by omega
    have c3 : (i : Int) < (ls.length : Int) := by omega
    have gR : ∀ X, Ev (fun k => if e = 1 then some (([] : List S76), ([] : List Int), (1 : Int)) else (if e = 0 then (if o76.length < 2199023255552 then (foghornref20_All.l0 k ws r ls (o76 ++ [⟨s, P, Q⟩]) rf (wrap64 ((i : Int) + 1))) else none) else (if rf.length < 17592186044416 then (if o76.length < 2199023255552 then (foghornref20_All.l0 k ws r ls (o76 ++ [⟨s, P, Q⟩]) (rf ++ [(i : Int)]) (wrap64 ((i : Int) + 1))) else none) else none))) X → Ev (fun k => foghornref20_All.l0 k ws r ls o76 rf (i : Int)) X := fun X hX => by
      refine Ev.stepTo2 _ (fun k _ => by rw [foghornref20_All.l0, if_pos c1, if_pos c2, if_pos c3, hr1, hr2]) ?_
      exact Ev.bind h2 hX
    rcases he with rfl | ⟨hf, he⟩
    · exact ⟨[], [], [], 1, gA _ (Ev.congr (fun k => by rw [if_pos rfl]) (Ev.now _)), gR _ (Ev.congr (fun k => by rw [if_pos rfl]) (Ev.now _)), told_no20 r, fun h => absurd h (by decide)⟩
    · have hb := hf.bounds
      have hmid : Mid r (B w) := by unfold Mid; rw [B_size]; omega
      have hm2 : (o76 ++ [(⟨s, P, Q⟩ : S76)]).map (fun x => (x.f0, x.f1, x.f2)) = (o64 ++ [(⟨s, P, Q⟩ : S64)]).map (fun x => (x.f0, x.f1, x.f2)) := by rw [List.map_append, List.map_append, hm]; rfl
      have hs2 : ∀ x ∈ o64 ++ [(⟨s, P, Q⟩ : S64)], x.f1.length ≤ 255 ∧ x.f2.length ≤ 255 := fun x hx => by
        rcases List.mem_append.1 hx with hx | hx
        · exact hs x hx
        · rw [List.mem_singleton.1 hx]
          exact ⟨hP, hQ⟩
      rcases he with rfl | ⟨rfl, hsz⟩
      · obtain ⟨A, W, rf', e', k1, k2, k3, k4⟩ := ih (i + 1) (o64 ++ [⟨s, P, Q⟩]) (o76 ++ [⟨s, P, Q⟩]) (rf ++ [(i : Int)]) (by omega) (by rw [List.length_append, List.length_singleton]; omega) hm2 (by rw [List.length_append, List.length_singleton]; omega) hs2 (fun h => by simp at h)
        refine ⟨A, W, rf', e', gA _ (Ev.congr (fun k => by rw [if_neg (by decide), if_pos rfl]) k1), gR _ (Ev.congr (fun k => by rw [if_neg (by decide), if_neg (by decide), if_pos (by omega), if_pos (by omega), hw64.out]) k2), k3, fun h x hx => ?_⟩
        rw [hd1] at hx
        rcases List.mem_cons.1 hx with rfl | hx
        · exact hmid
        · exact k4 h x hx
      · obtain ⟨A, W, rf', e', k1, k2, k3, k4⟩ := ih (i + 1) (o64 ++ [⟨s, P, Q⟩]) (o76 ++ [⟨s, P, Q⟩]) rf (by omega) (by rw [List.length_append, List.length_singleton]; omega) hm2 (by omega) hs2 (fun h x hx => by
          rcases List.mem_append.1 hx with hx | hx
          · exact ha h x hx
          · rw [List.mem_singleton.1 hx]
            unfold Mid
            rw [show (⟨s, P, Q⟩ : S64).f0 = s from rfl, hsz]
            omega)
        refine ⟨A, W, rf', e', gA _ (Ev.congr (fun k => by rw [if_neg (by decide), if_neg (by decide)]) k1), gR _ (Ev.congr (fun k => by rw [if_neg (by decide), if_pos rfl, if_pos (by omega), hw64.out]) k2), k3, fun h x hx => ?_⟩
        rw [hd1] at hx
        rcases List.mem_cons.1 hx with rfl | hx
        · exact hmid
        · exact k4 h x hx
theorem all_same (r : Int) (ws : List ByteArray) (ls : List (List Int)) (hls : ∀ l ∈ ls, l.length ≤ 140737488351232) :
    ∃ (A : List S64) (W : List S76) (rf : List Int) (e : Int), Ev (fun k => mend_All.f k ws r ls) (A, rf, e) ∧ Ev (fun k => foghornref20_All.f k ws r ls) (W, rf, e) ∧ Told20 r A W rf e ∧ (e = 0 → (2 ≤ r ∧ r ≤ 64) ∧ ws.length ≤ 32768 ∧ ∀ s ∈ ws, Mid r s) := by
  by_cases hc : isChecks r = true
  · have hc' := hc
    unfold isChecks at hc'
    have hr := of_decide_eq_true hc'
    have hchk : reed_Check.f (wrap64 (r + 1)) r = some 0 := by rw [wrap_id _ (by omega) (by omega)]; exact check_fits ⟨hc, by omega, by omega⟩
    by_cases h1 : ws.length = ls.length
    · by_cases h2 : ws.length ≤ 32768
      · obtain ⟨A, W, rf, e, k1, k2, k3, k4⟩ := all_run r ws ls h1 h2 hls ws.length 0 [] [] [] (Nat.zero_add _) rfl rfl (Nat.le_refl _) (fun _ h => (nomatch h)) (fun _ _ h => (nomatch h))
        rw [List.drop_zero] at k1 k4
        rw [List.drop_zero] at k1
        have k2' : Ev (fun k => foghornref20_All.l0 k ws r ls [] [] 0) (W, rf, e) := k2
        refine ⟨A, W, rf, e, Ev.congr (fun k => by rw [mend_All.f, hchk, Option.bind_some, if_pos ⟨rfl, h1, h2⟩]) k1, ?_, k3, fun h => ⟨⟨hr.1, hr.2.1⟩, h2, k4 h⟩⟩
        refine Ev.congr (fun k => by rw [foghornref20_All.f, if_neg (by omega), if_neg (by omega), if_pos hr.2.2, if_pos (by omega), decide_eq_false (by omega)]) ?_
        exact Ev.stepTo2 _ (fun k _ => by rw [foghornref20_All.j0, if_neg (by decide)]) k2'
      · refine ⟨[], [], [], 1, Ev.congr (fun k => by rw [mend_All.f, hchk, Option.bind_some, if_neg (fun h => h2 h.2.2)]) (Ev.now _), ?_, told_no20 r, fun h => absurd h (by decide)⟩
        refine Ev.congr (fun k => by rw [foghornref20_All.f, if_neg (by omega), if_neg (by omega), if_pos hr.2.2, if_pos (by omega), decide_eq_true (by omega)]) ?_
        exact Ev.stepTo2 _ (fun k _ => by rw [foghornref20_All.j0, if_pos rfl]) (Ev.now _)
    · refine ⟨[], [], [], 1, Ev.congr (fun k => by rw [mend_All.f, hchk, Option.bind_some, if_neg (fun h => h1 h.2.1)]) (Ev.now _), ?_, told_no20 r, fun h => absurd h (by decide)⟩
      refine Ev.congr (fun k => by rw [foghornref20_All.f, if_neg (by omega), if_neg (by omega), if_pos hr.2.2, if_neg (by omega)]) ?_
      exact Ev.stepTo2 _ (fun k _ => by rw [foghornref20_All.j0, if_pos rfl]) (Ev.now _)
  · have hchk : reed_Check.f (wrap64 (r + 1)) r = some 1 := check_no (fun h => hc h.1)
    refine ⟨[], [], [], 1, Ev.congr (fun k => by rw [mend_All.f, hchk, Option.bind_some, if_neg (fun h => absurd h.1 (by decide))]) (Ev.now _), ?_, told_no20 r, fun h => absurd h (by decide)⟩
    have go : Ev (fun k => foghornref20_All.j0 k ws r ls true) (([] : List S76), ([] : List Int), (1 : Int)) := Ev.stepTo2 _ (fun k _ => by rw [foghornref20_All.j0, if_pos rfl]) (Ev.now _)
    refine Ev.congr (fun k => ?_) go
    rw [foghornref20_All.f]
    by_cases a : r < 2
    · rw [if_pos a]
    · rw [if_neg a]
      by_cases b : r > 64
      · rw [if_pos b]
      · rw [if_neg b, if_neg (fun c => hc (decide_eq_true ⟨by omega, by omega, c⟩))]
theorem size_run (r : Int) (hr : 2 ≤ r ∧ r ≤ 64) (ws : List ByteArray) (hn : ws.length ≤ 32768) (W : List S76) (rf : List Int) (X : ByteArray × Int) (d : Nat) : ∀ (i : Nat) (x : Int), i + d = ws.length → 0 ≤ x → x ≤ 255 * i → (∀ s ∈ ws.drop i, Mid r s) →
    Ev (fun k => if mm_size r (ws.drop i) x > 32768 then (some ((⟨#[]⟩ : ByteArray), (1 : Int))) else (if (rf.length : Int) > 0 then (some ((⟨#[]⟩ : ByteArray), 9)) else (foghornref20_Message.l1 k r W (⟨#[]⟩ : ByteArray) 0))) X → Ev (fun k => foghornref20_Message.l0 k ws r W rf x (i : Int)) X := by
  induction d with
  | zero =>
    intro i x hi h0 h1 hm H
    rw [List.drop_eq_nil_of_le (by omega)] at H
    exact Ev.stepTo2 _ (fun k _ => by rw [foghornref20_Message.l0, if_neg (by omega)]; rfl) H
  | succ d ih =>
    intro i x hi h0 h1 hm H
    have hi1 : i < ws.length := by omega
    have hd1 := List.drop_eq_getElem_cons hi1
    obtain ⟨s, hs⟩ : ∃ s, s = ws[i] := ⟨_, rfl⟩
    have hr1 : rdOf ByteArray.empty ws (i : Int) = s := by unfold rdOf; rw [Int.toNat_natCast, List.getD_eq_getElem?_getD, List.getElem?_eq_getElem hi1, hs]; rfl
    rw [← hs] at hd1
    have hsm : Mid r s := hm s (by rw [hd1]; exact List.mem_cons_self ..)
    obtain ⟨m1, m2⟩ := hsm
    have e1 := Aside0.mk (show wrap64 ((wrap64 (x + (s.size : Int))) - r) = x + s.size - r by rw [wrap_id (x + (s.size : Int)) (by omega) (by omega), wrap_id _ (by omega) (by omega)])
    have e2 := Aside0.mk (show wrap64 (x + wrap64 ((s.size : Int) - r)) = x + s.size - r by rw [wrap_id ((s.size : Int) - r) (by omega) (by omega), wrap_id _ (by omega) (by omega)]; omega)
    have e3 := Aside0.mk (show wrap64 ((i : Int) + 1) = ((i + 1 : Nat) : Int) by rw [wrap_id _ (by omega) (by omega)]; omega)
    rw [hd1, mm_size, e2.out] at H
    refine Ev.stepTo2 _ (fun k _ => by rw [foghornref20_Message.l0, if_pos (by omega), if_pos (by omega), hr1, e1.out, e3.out]) ?_
    exact ih (i + 1) _ (by omega) (by omega) (by omega) (fun s hs => hm s (by rw [hd1]; exact List.mem_cons_of_mem _ hs)) H
theorem text_run (r : Int) (hr : 2 ≤ r ∧ r ≤ 64) (A : List S64) (W : List S76) (hsame : W.map (fun x => (x.f0, x.f1, x.f2)) = A.map (fun x => (x.f0, x.f1, x.f2))) (hlen : A.length ≤ 32768) (hm : ∀ x ∈ A, Mid r x.f0) (d : Nat) : ∀ (i : Nat) (bs : List UInt8), i + d = A.length → bs.length ≤ 255 * i →
    ∃ bs', mm_text r (A.drop i) bs = some bs' ∧ Ev (fun k => foghornref20_Message.l1 k r W (⟨bs.toArray⟩ : ByteArray) (i : Int)) ((⟨bs'.toArray⟩ : ByteArray), (0 : Int)) := by
  have hl2 : W.length = A.length := by have := congrArg List.length hsame; rw [List.length_map, List.length_map] at this; exact this
  induction d with
  | zero =>
    intro i bs hi hb
    refine ⟨bs, by rw [List.drop_eq_nil_of_le (by omega), mm_text], ?_⟩
    exact Ev.stepTo2 _ (fun k _ => by rw [foghornref20_Message.l1, if_neg (by omega)]) (Ev.now _)
  | succ d ih =>
    intro i bs hi hb
    have hi1 : i < A.length := by omega
    have hd1 := List.drop_eq_getElem_cons hi1
    obtain ⟨x, hx⟩ : ∃ x, x = A[i] := ⟨_, rfl⟩
    rw [← hx] at hd1
    have hxm : Mid r x.f0 := hm x (by rw [hx]; exact List.getElem_mem hi1)
    obtain ⟨m1, m2⟩ := hxm
    have hr1 : (rd_T76 W (i : Int)).f0 = x.f0 := by
      have h1 := congrArg (fun l => l[i]?) hsame
      simp only [List.getElem?_map, List.getElem?_eq_getElem hi1, List.getElem?_eq_getElem (show i < W.length by omega), Option.map_some, Option.some.injEq, Prod.mk.injEq] at h1
      unfold rd_T76
      rw [Int.toNat_natCast, List.getD_eq_getElem?_getD, List.getElem?_eq_getElem (show i < W.length by omega), hx]
      exact h1.1
    have hz : (x.f0.extract 0 (wrap64 ((x.f0.size : Int) - r)).toNat).size ≤ 255 := by rw [ByteArray.size_extract]; omega
    have e1 : wrap64 ((x.f0.size : Int) - r) = (x.f0.size : Int) - r := wrap_id _ (by omega) (by omega)
    have e3 := Aside0.mk (show wrap64 ((i : Int) + 1) = ((i + 1 : Nat) : Int) by rw [wrap_id _ (by omega) (by omega)]; omega)
    have e4 : (⟨bs.toArray⟩ : ByteArray) ++ x.f0.extract 0 (wrap64 ((x.f0.size : Int) - r)).toNat = ⟨(bs ++ (x.f0.extract 0 (wrap64 ((x.f0.size : Int) - r)).toNat).data.toList).toArray⟩ := by
      apply B_ext
      rw [ByteArray.data_append]
      simp
    have hz2 : (x.f0.extract 0 (wrap64 ((x.f0.size : Int) - r)).toNat).data.toList.length ≤ 255 := hz
    have hsz : (⟨bs.toArray⟩ : ByteArray).size = bs.length := rfl
    obtain ⟨bs', k1, k2⟩ := ih (i + 1) (bs ++ (x.f0.extract 0 (wrap64 ((x.f0.size : Int) - r)).toNat).data.toList) (by omega) (by rw [List.length_append]; omega)
    refine ⟨bs', by rw [hd1, mm_text, if_pos ⟨by omega, by omega, by omega⟩]; exact k1, ?_⟩
    refine Ev.stepTo2 _ (fun k _ => by rw [foghornref20_Message.l1, if_pos (by omega), if_pos (by omega), hr1, if_pos (by omega), if_pos (by omega), if_pos (by rw [hsz]; omega), e4, e3.out]) k2
theorem message_same {r : Int} {ws : List ByteArray} {ls : List (List Int)} {A : List S64} {W : List S76} {rf : List Int} {e : Int} (hw : ws.length ≤ 140737488355328) (h1 : Ev (fun k => mend_All.f k ws r ls) (A, rf, e)) (h2 : Ev (fun k => foghornref20_All.f k ws r ls) (W, rf, e)) (ht : Told20 r A W rf e) (h0 : e = 0 → (2 ≤ r ∧ r ≤ 64) ∧ ws.length ≤ 32768 ∧ ∀ s ∈ ws, Mid r s) :
    ∃ X : ByteArray × Int, Ev (fun k => foghornref20_Message.f k ws r ls) X ∧ Ev (fun k => mend_Message.f k ws r ls) X := by
  have gM : ∀ X, Ev (fun k => mm_end r ws (A, rf, e)) X → Ev (fun k => mend_Message.f k ws r ls) X := fun X hX => by
    refine Ev.congr (fun k => by rw [mend_Message.f, if_pos hw]) ?_
    exact Ev.bind h1 hX
  have gR : ∀ X, Ev (fun k => if e = 0 then (foghornref20_Message.l0 k ws r W rf 0 0) else (some ((⟨#[]⟩ : ByteArray), e))) X → Ev (fun k => foghornref20_Message.f k ws r ls) X := fun X hX => by
    refine Ev.congr (fun k => by rw [foghornref20_Message.f]) ?_
    exact Ev.bind h2 hX
  rcases ht.ans with rfl | ⟨rfl, ha⟩
  · exact ⟨(⟨#[]⟩, 1), gR _ (Ev.congr (fun k => by rw [if_neg (by decide)]) (Ev.now _)), gM _ (Ev.congr (fun k => by rw [mm_end, if_neg (show ¬ (1 : Int) = 0 by decide)]) (Ev.now _))⟩
  · obtain ⟨hr, hn, hmid⟩ := h0 rfl
    have hs := fun X H => size_run r hr ws hn W rf X ws.length 0 0 (Nat.zero_add _) (by omega) (by omega) (by rw [List.drop_zero]; exact hmid) H
    rw [List.drop_zero] at hs
    have hs' : ∀ X, Ev (fun k => if mm_size r ws 0 > 32768 then (some ((⟨#[]⟩ : ByteArray), (1 : Int))) else (if (rf.length : Int) > 0 then (some ((⟨#[]⟩ : ByteArray), 9)) else (foghornref20_Message.l1 k r W (⟨#[]⟩ : ByteArray) 0))) X → Ev (fun k => foghornref20_Message.f k ws r ls) X := fun X H => gR _ (Ev.congr (fun k => by rw [if_pos rfl]) (show Ev (fun k => foghornref20_Message.l0 k ws r W rf 0 0) X from hs X H))
    by_cases c : mm_size r ws 0 > 32768
    · exact ⟨(⟨#[]⟩, 1), hs' _ (Ev.congr (fun k => by rw [if_pos c]) (Ev.now _)), gM _ (Ev.congr (fun k => by rw [mm_end, if_pos rfl, if_pos c]) (Ev.now _))⟩
    · by_cases c2 : 0 < rf.length
      · exact ⟨(⟨#[]⟩, 9), hs' _ (Ev.congr (fun k => by rw [if_neg c, if_pos (by omega)]) (Ev.now _)), gM _ (Ev.congr (fun k => by rw [mm_end, if_pos rfl, if_neg c, if_pos c2]) (Ev.now _))⟩
      · have hrf : rf = [] := List.eq_nil_of_length_eq_zero (by omega)
        have hl := ht.len
        obtain ⟨bs, k1, k2⟩ := text_run r hr A W ht.same ht.len (ha hrf) A.length 0 [] (Nat.zero_add _) (by simp)
        rw [List.drop_zero] at k1
        refine ⟨(⟨bs.toArray⟩, 0), hs' _ (Ev.congr (fun k => by rw [if_neg c, if_neg (by omega)]) (show Ev (fun k => foghornref20_Message.l1 k r W (⟨#[]⟩ : ByteArray) 0) _ from k2)), gM _ (Ev.congr (fun k => ?_) (Ev.now _))⟩
        rw [mm_end, if_pos rfl, if_neg c, if_neg c2, if_pos (show A.length ≤ 1000000 by omega), show mm_text r (A, rf, (0 : Int)).1 [] = some bs from k1]
        rfl
end Go.Proofs.Ytncoakokdajibaa.Sem
namespace Go.Proofs.Ytncoakokdajibaa.Pure
open Go.RowKit Go.Proofs.Ytncoakokdajibaa.Q Go.Proofs.YtncoakokdajibaaW.PrintWords Go.Proofs.YtncoakokdajibaaW.PrintLast Go.Proofs.YtncoakokdajibaaW.PrintMore Go.Proofs.Ytncoakokdajibaa.Gf Go.Proofs.Ytncoakokdajibaa.Sem
theorem MendMany : foghornlaw20_MendMany.Pure := by
  intro l0 a1 l2 h0 _ h2
  have hls : ∀ l ∈ l2, l.length ≤ 140737488351232 := fun l hl => by have := (h2.2 l hl).1; omega
  obtain ⟨A, W, rf, e, k1, k2, k3, k4⟩ := all_same a1 l0 l2 hls
  obtain ⟨⟨m, n⟩, g1, g2⟩ := message_same (by omega) k1 k2 k3 k4
  have hrl := k3.rlen
  have hl := k3.len
  have hok : many_ok (W, rf, e) (A, rf, e) := ⟨k3.same, rfl, fun x hx => by have := k3.short x hx; omega, by show A.length ≤ 100000; omega, by show rf.length ≤ 100000; omega⟩
  have : Ev (fun k => foghornlaw20_MendMany.f k l0 a1 l2) true := by
    refine Ev.congr (fun k => by rw [foghornlaw20_MendMany.f, if_pos ⟨by omega, by omega, fun x hx => by have := (h2.2 x hx).1; omega⟩]) ?_
    refine Ev.bind k2 ?_
    refine Ev.bind k1 ?_
    refine Ev.congr (fun k => by rw [if_pos hok]) ?_
    refine Ev.bind g1 ?_
    refine Ev.bind g2 ?_
    exact Ev.congr (fun k => by rw [if_pos rfl]) (Ev.now _)
  obtain ⟨K, hK⟩ := this
  exact ⟨K, hK K (Nat.le_refl _)⟩
end Go.Proofs.Ytncoakokdajibaa.Pure
