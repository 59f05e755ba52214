import Derived.Test.YtncoakokdajibaaMendManyRMend3
/- The document's mending, whole: the same answer for every word. -/
namespace Go.Proofs.Ytncoakokdajibaa.Sem
open Go.RowKit Go.Proofs.Ytncoakokdajibaa.Q Go.Proofs.YtncoakokdajibaaW.PrintWords Go.Proofs.YtncoakokdajibaaW.PrintLast Go.Proofs.YtncoakokdajibaaW.PrintMore Go.Proofs.Ytncoakokdajibaa.Gf
theorem Lz_append (P Q : List Nat) : Lz (P ++ Q) = Lz P ++ Lz Q := List.map_append
abbrev noAns : ByteArray × List Int × List Int × Int := ((⟨#[]⟩ : ByteArray), ([] : List Int), ([] : List Int), 9)
def restK (k : Nat) (w : List F) (r : Int) (l : List Int) : ByteArray × Bool → Option (ByteArray × List Int × List Int × Int) := fun bt1129 => (if bt1129.2 = true then ((foghornref20_Within.f k (B w) bt1129.1 r l).bind fun bt1131 => (if bt1131.1 = true then ((foghornref20_unlike.f k (B w) bt1129.1 (marks w.length l)).bind fun t1133 => ((foghornref20_rising.f k (marks w.length l)).bind fun t1136 => (some (bt1129.1, t1133, t1136, 0)))) else (some ((⟨#[]⟩ : ByteArray), ([] : List Int), ([] : List Int), 9)))) else (some ((⟨#[]⟩ : ByteArray), ([] : List Int), ([] : List Int), 9)))
section
variable {w S t : List F} {r : Int} {l : List Int} {f v : Nat} {X : ByteArray × List Int × List Int × Int}
theorem l2_end : Ev (fun k => foghornref20_Mend.l2 k (B w) r l (marks w.length l) (f : Int) (L S) (L t) (-1)) noAns :=
  Ev.stepTo2 _ (fun k _ => by rw [foghornref20_Mend.l2, if_neg (by omega)]) (Ev.now _)
theorem l2_no (he : Ev (fun k => foghornref20_errors.f k (L t) (f : Int) (v : Int) (w.length : Int) (marks w.length l)) (([] : List Int), false)) (h : Ev (fun k => foghornref20_Mend.l2 k (B w) r l (marks w.length l) (f : Int) (L S) (L t) (wrap64 ((v : Int) - 1))) X) : Ev (fun k => foghornref20_Mend.l2 k (B w) r l (marks w.length l) (f : Int) (L S) (L t) (v : Int)) X := by
  refine Ev.stepTo2 _ (fun k _ => by rw [foghornref20_Mend.l2, if_pos (by omega), toNat_len]) ?_
  refine Ev.bind he ?_
  exact Ev.congr (fun k => by rw [if_neg (by decide)]) h
theorem l2_yes (hn : w.length ≤ 255) {Q : List Nat} (hQ : Q.length ≤ 255) (he : Ev (fun k => foghornref20_errors.f k (L t) (f : Int) (v : Int) (w.length : Int) (marks w.length l)) (Lz Q, true)) (h : Ev (fun k => (foghornref20_filled.f k (B w) r (Lz (gone w.length (isf l) ++ Q)) (L S)).bind (restK k w r l)) X) : Ev (fun k => foghornref20_Mend.l2 k (B w) r l (marks w.length l) (f : Int) (L S) (L t) (v : Int)) X := by
  refine Ev.stepTo2 _ (fun k _ => by rw [foghornref20_Mend.l2, if_pos (by omega), toNat_len]) ?_
  refine Ev.bind he ?_
  refine Ev.congr (fun k => by rw [if_pos rfl]) ?_
  refine Ev.bind (rrising_ev (marks w.length l) w.length (marks_length _ _) hn (isf l) (fun i hi => rd_marks _ _ i hi)) ?_
  refine Ev.congr (fun k => ?_) h
  rw [if_pos (by rw [Lz_length, Lz_length]; have := gone_le w.length (isf l); omega), Lz_append]
  rfl
end
theorem filled_long (w : List F) (r : Int) (P : List Nat) (S : List F) (h : r < (P.length : Int)) : Ev (fun k => foghornref20_filled.f k (B w) r (Lz P) (L S)) ((⟨#[]⟩ : ByteArray), false) :=
  Ev.congr (fun k => by rw [foghornref20_filled.f, if_pos (by rw [Lz_length]; omega)]) (Ev.now _)
theorem rmend_try (w : List F) (r : Int) (l : List Int) (hl : l.length ≤ 140737488351232) (hfit : Fits w.length r) (hg : Good w.length l) (hno : ∀ c, ¬ Reach w c r.toNat l) (t : List F) (ht : t.length = r.toNat) (v : Nat) (hv : l.length + 2 * v ≤ r.toNat)
    (h : Ev (fun k => foghornref20_Mend.l2 k (B w) r l (marks w.length l) ((l.length : Nat) : Int) (L (syn w r.toNat)) (L t) (wrap64 ((v : Int) - 1))) noAns) :
    Ev (fun k => foghornref20_Mend.l2 k (B w) r l (marks w.length l) ((l.length : Nat) : Int) (L (syn w r.toNat)) (L t) (v : Int)) noAns := by
  have hn := hfit.bounds
  obtain ⟨o, _, he⟩ := errors_ev t l.length v w.length (marks w.length l) (by omega) (by omega) (by omega) (marks_length _ _) (isf l) (fun i hi => rd_marks _ _ i hi)
  cases o with
  | none => exact l2_no he h
  | some x =>
    refine l2_yes (by omega) (by have := gone_le w.length (eplaces w.length (isf l) x); omega) he ?_
    by_cases hP : r < (((gone w.length (isf l) ++ gone w.length (eplaces w.length (isf l) x)).length : Nat) : Int)
    · refine Ev.bind (filled_long w r _ _ hP) ?_
      exact Ev.congr (fun k => by unfold restK; rw [if_neg (by decide)]) (Ev.now _)
    · obtain ⟨o2, _, hf⟩ := filled_ev w r hfit (gone w.length (isf l) ++ gone w.length (eplaces w.length (isf l) x)) (fun a ha => (List.mem_append.1 ha).elim (fun h => (mem_gone.1 h).1) (fun h => (mem_gone.1 h).1)) (by omega) (syn w r.toNat) (syn_length _ _)
      rcases hf with ⟨_, hf⟩ | ⟨x2, b, _, hf, hb, _⟩
      · refine Ev.bind hf ?_
        exact Ev.congr (fun k => by unfold restK; rw [if_neg (by decide)]) (Ev.now _)
      · refine Ev.bind hf ?_
        by_cases hW : wholeB b r.toNat = true
        · obtain ⟨X, hX, _, hX2⟩ := rwithin_ev w b r l hl hfit hg hb
          have hX1 : X.1 = false := Bool.eq_false_iff.2 (fun e => hno b (hX2.1 e))
          refine Ev.congr (fun k => by unfold restK; rw [if_pos hW]) ?_
          refine Ev.bind hX ?_
          exact Ev.congr (fun k => by rw [hX1, if_neg (by decide)]) (Ev.now _)
        · exact Ev.congr (fun k => by unfold restK; rw [if_neg hW]) (Ev.now _)
theorem rmend_none (w : List F) (r : Int) (l : List Int) (hl : l.length ≤ 140737488351232) (hfit : Fits w.length r) (hg : Good w.length l) (hno : ∀ c, ¬ Reach w c r.toNat l) (t : List F) (ht : t.length = r.toNat) : ∀ v : Nat, l.length + 2 * v ≤ r.toNat →
    Ev (fun k => foghornref20_Mend.l2 k (B w) r l (marks w.length l) ((l.length : Nat) : Int) (L (syn w r.toNat)) (L t) (v : Int)) noAns
  | 0, hv => rmend_try w r l hl hfit hg hno t ht 0 hv (Ev.congr (fun k => by rw [show wrap64 (((0 : Nat) : Int) - 1) = -1 by unfold wrap64; omega]) l2_end)
  | v + 1, hv => rmend_try w r l hl hfit hg hno t ht (v + 1) hv (Ev.congr (fun k => by rw [wrap_id _ (by have := hfit.bounds; omega) (by have := hfit.bounds; omega), show (((v + 1 : Nat) : Int) - 1) = (v : Int) by omega]) (rmend_none w r l hl hfit hg hno t ht v (by omega)))
theorem rmend_some (w : List F) (r : Int) (l : List Int) (hl : l.length ≤ 140737488351232) (hfit : Fits w.length r) (hg : Good w.length l) (c : List F) (hR : Reach w c r.toNat l) (p : List F) (hp1 : p.length = l.length + 1) (hp2 : at_ p 0 = 1) (hp3 : ∀ i : Nat, (i : Int) ∈ l → evp p (inv (plc w.length i)) = 0)
    (t : List F) (ht : t.length = r.toNat) (ht2 : ∀ m, m < r.toNat → at_ t m = tsum p (syn w r.toNat) m) (d : Nat) : ∀ v : Nat, v = (bad (lay w c) w.length (isf l)).length + d → l.length + 2 * v ≤ r.toNat →
    Ev (fun k => foghornref20_Mend.l2 k (B w) r l (marks w.length l) ((l.length : Nat) : Int) (L (syn w r.toNat)) (L t) (v : Int)) (B c, Lz (bad (lay w c) w.length (isf l)), Lz (gone w.length (isf l)), 0) := by
  have hn := hfit.bounds
  have hn255 : w.length ≤ 255 := by omega
  obtain ⟨e, he⟩ : ∃ e, e = lay w c := ⟨_, rfl⟩
  have hel : e.length = w.length := by rw [he]; exact lay_length hR.1.symm
  have hgl := gone_count _ _ hg
  -- the pairs
  obtain ⟨A, hA⟩ : ∃ A, A = (gone w.length (isf l)).map (pr e w.length) := ⟨_, rfl⟩
  obtain ⟨W, hW⟩ : ∃ W, W = (bad e w.length (isf l)).map (pr e w.length) := ⟨_, rfl⟩
  have hWl : W.length = (bad e w.length (isf l)).length := by rw [hW, List.length_map]
  have hx : ∀ q ∈ A ++ W, q.2 ≠ 0 := fun q hq => by
    rw [hA, hW, ← List.map_append] at hq
    obtain ⟨i, _, rfl⟩ := List.mem_map.1 hq
    exact plc_ne _ _
  have hS : ∀ m, m < r.toNat → at_ (syn w r.toNat) m = es (fun x => pow x m) (A ++ W) := fun m hm => by
    have h1 := split_es e (isf l) m
    rw [hel, ← hA, ← hW] at h1
    rw [h1, at_syn w r.toNat m hm, he, wv_lay w c _ hR.1.symm, hR.2.1 m hm, add_zero]
  have hrt : ∀ q ∈ A, evp p (inv q.2) = 0 := fun q hq => by
    rw [hA] at hq
    obtain ⟨i, hi, rfl⟩ := List.mem_map.1 hq
    exact hp3 i (of_decide_eq_true (mem_gone.1 hi).2)
  have ht3 : ∀ m, l.length ≤ m → m < r.toNat → at_ t m = es (fun x => pow x m * evp p (inv x)) W := fun m h1 h2 => by
    rw [ht2 m h2]
    unfold tsum
    rw [show min p.length (m + 1) = l.length + 1 by omega, sm_congr (g := fun k => at_ p k * es (fun x => pow x (m - k) * 1) (A ++ W)) _ (fun k hk => by
      rw [hS (m - k) (by omega)]
      congr 1
      exact es_congr _ (fun q _ => (mul_one _).symm)), disc (A ++ W) (fun _ => 1) hx p m (l.length + 1) (by omega) (fun k hk => at_ge _ _ (by omega)), ← lost_none hrt m]
    exact es_congr _ (fun q _ => by rw [mul_one])
  have hPair : Pair W (fun x => evp p (inv x)) := {
    x0 := fun q hq => hx q (List.mem_append_right _ hq)
    e0 := fun q hq => by
      rw [hW] at hq
      obtain ⟨i, hi, rfl⟩ := List.mem_map.1 hq
      exact (mem_bad.1 hi).2.2
    nd := by
      have h := split_nodup e w.length hn255 (isf l)
      rw [← hA, ← hW, List.map_append] at h
      exact (List.nodup_append.1 h).2.1
    h0 := fun q hq hz => by
      have h := split_nodup e w.length hn255 (isf l)
      rw [← hA, ← hW, List.map_append, List.nodup_append] at h
      have hx' : ∀ x ∈ q.2 :: A.map Prod.snd, x ≠ 0 := fun x hxm => by
        rcases List.mem_cons.1 hxm with rfl | hxm
        · exact hx q (List.mem_append_right _ hq)
        · obtain ⟨u, hu, rfl⟩ := List.mem_map.1 hxm
          exact hx u (List.mem_append_left _ hu)
      have hnd : (q.2 :: A.map Prod.snd).Nodup := List.nodup_cons.2 ⟨fun hm => h.2.2 _ hm _ (List.mem_map_of_mem hq) rfl, h.1⟩
      have := too_many hp2 (l := l.length) (fun k hk => at_ge _ _ (by omega)) ((q.2 :: A.map Prod.snd).map inv) (nodup_inv _ hx' hnd) (fun y hy => by
        obtain ⟨u, hu, rfl⟩ := List.mem_map.1 hy
        rcases List.mem_cons.1 hu with rfl | hu
        · exact hz
        · obtain ⟨q', hq', rfl⟩ := List.mem_map.1 hu
          exact hrt q' hq')
      rw [List.length_map, List.length_cons, List.length_map, hA, List.length_map, hgl] at this
      omega }
  rw [← he]
  induction d with
  | succ d ih =>
    intro v hv hr
    obtain ⟨o, hT, hE⟩ := errors_ev t l.length v w.length (marks w.length l) (by omega) (by omega) hn255 (marks_length _ _) (isf l) (fun i hi => rd_marks _ _ i hi)
    cases o with
    | some x => exact (hPair.many t l.length r.toNat ht3 v (by omega) hr hT).elim
    | none =>
      refine l2_no hE ?_
      refine Ev.congr (fun k => ?_) (ih (v - 1) (by omega) (by omega))
      rw [wrap_id _ (by omega) (by omega), show ((v : Int) - 1) = ((v - 1 : Nat) : Int) by omega]
  | zero =>
    intro v hv hr
    obtain ⟨o, hT, hE⟩ := errors_ev t l.length v w.length (marks w.length l) (by omega) (by omega) hn255 (marks_length _ _) (isf l) (fun i hi => rd_marks _ _ i hi)
    obtain ⟨x, rfl, hsm⟩ := hPair.just t l.length r.toNat ht3 v (by omega) hr hT
    have hl0 : ∀ x ∈ W.map Prod.snd, x ≠ 0 := fun x hx => by
      obtain ⟨q, hq, rfl⟩ := List.mem_map.1 hx
      exact hPair.x0 q hq
    have hpl : gone w.length (eplaces w.length (isf l) x) = bad e w.length (isf l) := by
      refine List.filter_congr (fun i hi => ?_)
      have hi' := List.mem_range.1 hi
      show (!isf l i && !nz (evp (1 :: x) (inv (plc w.length i)))) = (!isf l i && nz (at_ e i))
      cases hf : isf l i with
      | true => rfl
      | false =>
        rw [Bool.not_false, Bool.true_and, Bool.true_and, evp_congr hsm]
        have hroot := loc_root (W.map Prod.snd) hl0 (plc w.length i) (plc_ne _ _)
        have hmem : plc w.length i ∈ W.map Prod.snd ↔ at_ e i ≠ 0 := by
          rw [hW, List.map_map]
          constructor
          · intro h
            obtain ⟨j, hj, hij⟩ := List.mem_map.1 h
            have hj' := mem_bad.1 hj
            have : j = i := plc_inj hn255 hj'.1 hi' hij
            rw [← this]
            exact hj'.2.2
          · intro h
            exact List.mem_map.2 ⟨i, mem_bad.2 ⟨hi', hf, h⟩, rfl⟩
        unfold nz
        by_cases ha : at_ e i = 0
        · rw [ha, decide_eq_true (show evp (loc (W.map Prod.snd)) (inv (plc w.length i)) ≠ 0 from fun h => (hmem.1 (hroot.1 h)) ha)]
          decide
        · rw [hroot.2 (hmem.2 ha), decide_eq_true ha]
          decide
    have hE' : Ev (fun k => foghornref20_errors.f k (L t) ((l.length : Nat) : Int) (v : Int) (w.length : Int) (marks w.length l)) (Lz (bad e w.length (isf l)), true) := by
      rw [← hpl]
      exact hE
    refine l2_yes hn255 (by have := bad_le e w.length (isf l); omega) hE' ?_
    obtain ⟨P, hP⟩ : ∃ P, P = gone w.length (isf l) ++ bad e w.length (isf l) := ⟨_, rfl⟩
    have hPlt : ∀ a ∈ P, a < w.length := fun a ha => by
      rw [hP] at ha
      exact (List.mem_append.1 ha).elim (fun h => (mem_gone.1 h).1) (fun h => (mem_bad.1 h).1)
    have hPnd : P.Nodup := by
      rw [hP, List.nodup_append]
      refine ⟨List.nodup_range.filter _, List.nodup_range.filter _, fun a ha b hb hab => ?_⟩
      subst hab
      rw [mem_gone] at ha
      rw [mem_bad] at hb
      rw [ha.2] at hb
      cases hb.2.1
    have hPl : P.length ≤ r.toNat := by
      rw [hP, List.length_append, hgl]
      omega
    have hAW : A ++ W = P.map (pr e w.length) := by rw [hA, hW, hP, List.map_append]
    have hX : ∀ i j, i < P.length → j < P.length → plc w.length (P.getD i 0) = plc w.length (P.getD j 0) → i = j := fun i j hi hj h => by
      have h1 := plc_inj hn255 (getD_lt hPlt hi) (getD_lt hPlt hj) h
      rw [List.getD_eq_getElem?_getD, List.getD_eq_getElem?_getD, List.getElem?_eq_getElem hi, List.getElem?_eq_getElem hj] at h1
      exact (List.getElem_inj hPnd).1 h1
    rw [← hP]
    obtain ⟨o2, hT2, hf⟩ := filled_ev w r hfit P hPlt hPl (syn w r.toNat) (syn_length _ _)
    rcases hf with ⟨rfl, _⟩ | ⟨x2, b, rfl, hf, hb, hb2⟩
    · exfalso
      obtain ⟨z, ⟨j, hj, hz⟩, hQ⟩ := hT2
      have hfree := powers_free ((List.range P.length).map (fun j => (z j, plc w.length (P.getD j 0)))) (fun _ => 1) (fun q hq => by
        obtain ⟨i, _, rfl⟩ := List.mem_map.1 hq
        exact plc_ne _ _) (by
        rw [List.map_map]
        refine nodup_on _ _ (fun a ha b hb hab => hX a b (List.mem_range.1 ha) (List.mem_range.1 hb) hab) List.nodup_range) 0 (fun m _ hm => by
        rw [es_range (fun x => pow x m * 1) z (fun j => plc w.length (P.getD j 0))]
        rw [range_len] at hm
        refine Eq.trans (sm_congr _ (fun j _ => ?_)) (hQ m (by omega))
        show z j * (pow (plc w.length (P.getD j 0)) m * 1) = pow (plc w.length (P.getD j 0)) m * z j
        rw [mul_one, mul_comm])
      have h1 := hfree (z j, plc w.length (P.getD j 0)) (List.mem_map.2 ⟨j, List.mem_range.2 hj, rfl⟩)
      rw [mul_one] at h1
      exact hz h1
    · have hx2 := (hT2.2 (fun j => at_ e (P.getD j 0))).1 (fun i hi => by
        rw [hS i (by omega), hAW, es_map]
        exact sm_congr _ (fun j _ => mul_comm _ _))
      have hbc : b = c := by
        refine ext_at (by rw [hb, hR.1]) (fun m hm => ?_)
        have hm' : m < w.length := by rw [hb] at hm; exact hm
        have hem : at_ e m = at_ w m + at_ c m := by rw [he, at_lay w c m hR.1.symm]
        have hsum : sm (fun j => if P.getD j 0 = m then at_ x2 j else 0) P.length = at_ e m := by
          by_cases hmP : m ∈ P
          · obtain ⟨j, hj, hjm⟩ := List.getElem_of_mem hmP
            have hjm' : P.getD j 0 = m := by rw [List.getD_eq_getElem?_getD, List.getElem?_eq_getElem hj]; exact hjm
            rw [sm_one _ j _ hj (fun k hk hne => if_neg (fun h => hne (hX k j hk hj (by rw [h, hjm'])))), if_pos hjm', ← hx2 j hj]
            show at_ e (P.getD j 0) = at_ e m
            rw [hjm']
          · rw [sm_zero _ (fun k hk => if_neg (fun h => hmP (by
              rw [← h, List.getD_eq_getElem?_getD, List.getElem?_eq_getElem hk]
              exact List.getElem_mem hk)))]
            refine (Decidable.byContradiction (fun hc => hmP ?_))
            rw [hP]
            cases hf2 : isf l m with
            | true => exact List.mem_append_left _ (mem_gone.2 ⟨hm', hf2⟩)
            | false => exact List.mem_append_right _ (mem_bad.2 ⟨hm', hf2, fun h => hc h.symm⟩)
        rw [hb2 m, hsum, hem, add_cancel]
      subst hbc
      refine Ev.bind hf ?_
      refine Ev.congr (fun k => by unfold restK; rw [if_pos ((wholeB_iff b r.toNat).2 hR.2.1)]) ?_
      obtain ⟨X, hX3, _, hX4⟩ := rwithin_ev w b r l hl hfit hg hR.1
      refine Ev.bind hX3 ?_
      refine Ev.congr (fun k => by rw [if_pos (hX4.2 hR)]) ?_
      refine Ev.bind (runlike_ev w b hR.1 hn255 l) ?_
      refine Ev.bind (rrising_ev (marks w.length l) w.length (marks_length _ _) hn255 (isf l) (fun i hi => rd_marks _ _ i hi)) ?_
      rw [he]
      exact Ev.now _
theorem RMend_same (w : List F) (r : Int) (l : List Int) (hl : l.length ≤ 140737488351232) :
    ∃ (b : List F) (P Q : List Nat) (e : Int), Ev (fun k => mend_Mend.f k (B w) r l) (B b, Lz P, Lz Q, e) ∧ Ev (fun k => foghornref20_Mend.f k (B w) r l) (B b, Lz P, Lz Q, e) ∧ P.length ≤ 255 ∧ Q.length ≤ 255 := by
  rcases Mend_ev w r l hl with ⟨h, hM⟩ | ⟨⟨hfit, hg⟩, hM⟩
  · refine ⟨[], [], [], 1, hM, ?_, by decide, by decide⟩
    refine Ev.congr (fun k => by rw [foghornref20_Mend.f]) ?_
    refine Ev.bind (wrong_no w r l hl h) ?_
    exact Ev.congr (fun k => by rw [if_neg (by decide)]; rfl) (Ev.now _)
  · have hn := hfit.bounds
    have go : ∀ X, l.length ≤ r.toNat → (∀ p : List F, p.length = l.length + 1 → at_ p 0 = 1 → (∀ i : Nat, (i : Int) ∈ l → evp p (inv (plc w.length i)) = 0) → ∀ t : List F, t.length = r.toNat → (∀ m, m < r.toNat → at_ t m = tsum p (syn w r.toNat) m) →
        Ev (fun k => foghornref20_Mend.l2 k (B w) r l (marks w.length l) ((l.length : Nat) : Int) (L (syn w r.toNat)) (L t) (((r.toNat - l.length) / 2 : Nat) : Int)) X) → Ev (fun k => foghornref20_Mend.f k (B w) r l) X := fun X hlr H => by
      obtain ⟨p, hp, hp1, hp2, hp3⟩ := rlocator_ev w.length (by omega) (by omega) l hg
      refine Ev.congr (fun k => by rw [foghornref20_Mend.f]) ?_
      refine Ev.bind (wrong_ok w r l hl hfit hg) ?_
      refine Ev.congr (fun k => by rw [if_pos rfl, if_neg (by omega)]) ?_
      refine Ev.bind (rsyndromes_ev w r hfit) ?_
      refine Ev.congr (fun k => by rw [toNat_len]) ?_
      refine Ev.bind hp ?_
      refine Ev.congr (fun k => ?_) (mt_l0 (B w) r.toNat (by omega) l (marks w.length l) l.length hlr (syn w r.toNat) p (syn_length _ _) (by omega) X r.toNat 0 (List.replicate r.toNat 0) (by omega) List.length_replicate (fun t e1 e2 => ?_))
      · rw [if_pos (by omega), if_pos (by omega), Int.toNat_of_nonneg (by omega), L_replicate]
        rfl
      · rw [Int.toNat_of_nonneg (by omega)]
        exact H p hp1 hp2 hp3 t e1 (fun m hm => by rw [e2 m, if_pos (by omega), at_replicate, zero_add])
    rcases hM with ⟨c, hR, hM⟩ | ⟨hno, hM⟩
    · have h3 := hR.2.2
      refine ⟨c, _, _, 0, hM, go _ (by omega) (fun p hp1 hp2 hp3 t e1 e2 => ?_), by have := bad_le (lay w c) w.length (isf l); omega, by have := gone_le w.length (isf l); omega⟩
      exact rmend_some w r l hl hfit hg c hR p hp1 hp2 hp3 t e1 e2 ((r.toNat - l.length) / 2 - (bad (lay w c) w.length (isf l)).length) _ (by omega) (by omega)
    · refine ⟨[], [], [], 9, hM, ?_, by decide, by decide⟩
      by_cases hlr : l.length ≤ r.toNat
      · exact go _ hlr (fun p hp1 hp2 hp3 t e1 e2 => rmend_none w r l hl hfit hg hno t e1 _ (by omega))
      · refine Ev.congr (fun k => by rw [foghornref20_Mend.f]) ?_
        refine Ev.bind (wrong_ok w r l hl hfit hg) ?_
        exact Ev.congr (fun k => by rw [if_pos rfl, if_pos (by omega)]; rfl) (Ev.now _)
end Go.Proofs.Ytncoakokdajibaa.Sem
