import Derived.Test.YtncoakokdajibaaMendManyMendRun
/- Mending, over the field: the codeword within reach is what is found. -/
namespace Go.Proofs.Ytncoakokdajibaa.Sem
open Go.RowKit Go.Proofs.Ytncoakokdajibaa.Q Go.Proofs.YtncoakokdajibaaW.PrintWords Go.Proofs.YtncoakokdajibaaW.PrintLast Go.Proofs.YtncoakokdajibaaW.PrintMore Go.Proofs.Ytncoakokdajibaa.Gf
def pr (e : List F) (n i : Nat) : F × F := (at_ e i, plc n i)
theorem es_all : ∀ (e : List F) (m : Nat), es (fun x => pow x m) ((List.range e.length).map (pr e e.length)) = wv e (pow two m)
  | [], _ => rfl
  | a :: e, m => by
    have h := es_all e m
    rw [List.length_cons, List.range_succ_eq_map, List.map_cons, List.map_map, wv_cons]
    show a * pow (plc (e.length + 1) 0) m + es _ _ = _
    congr 1
    · rw [plc, show e.length + 1 - 1 - 0 = e.length by omega, ← pow_mul, ← pow_mul, Nat.mul_comm]
    · rw [← h]
      congr 1
      refine List.map_congr_left (fun i _ => ?_)
      show (at_ (a :: e) (i + 1), plc (e.length + 1) (i + 1)) = (at_ e i, plc e.length i)
      rw [at_cons_succ, plc, plc, show e.length + 1 - 1 - (i + 1) = e.length - 1 - i by omega]
theorem es_parts {α : Type} (g : F → F) (f : α → F × F) (P Q : α → Bool) : ∀ l : List α, (∀ a ∈ l, P a = true → Q a = false) → (∀ a ∈ l, P a = false → Q a = false → (f a).1 = 0) → es g (l.map f) = es g ((l.filter P).map f ++ (l.filter Q).map f)
  | [], _, _ => rfl
  | a :: l, h1, h2 => by
    have ih := es_parts g f P Q l (fun b hb => h1 b (List.mem_cons_of_mem _ hb)) (fun b hb => h2 b (List.mem_cons_of_mem _ hb))
    rw [es_append] at ih ⊢
    have hes : es g ((a :: l).map f) = (f a).1 * g (f a).2 + es g (l.map f) := rfl
    rw [hes, ih]
    have k1 := h1 a (List.mem_cons_self ..)
    have k2 := h2 a (List.mem_cons_self ..)
    cases hP : P a with
    | true =>
      rw [List.filter_cons_of_pos hP, List.filter_cons_of_neg (by rw [k1 hP]; decide), List.map_cons]
      show _ = (f a).1 * g (f a).2 + es g _ + es g _
      ac_rfl
    | false =>
      cases hQ : Q a with
      | true =>
        rw [List.filter_cons_of_neg (by rw [hP]; decide), List.filter_cons_of_pos hQ, List.map_cons]
        show _ = es g _ + ((f a).1 * g (f a).2 + es g _)
        ac_rfl
      | false => rw [List.filter_cons_of_neg (by rw [hP]; decide), List.filter_cons_of_neg (by rw [hQ]; decide), k2 hP hQ, zero_mul, zero_add]
theorem nodup_on {α β : Type} (f : α → β) : ∀ l : List α, (∀ a ∈ l, ∀ b ∈ l, f a = f b → a = b) → l.Nodup → (l.map f).Nodup
  | [], _, _ => List.nodup_nil
  | a :: l, h, hn => by
    rw [List.nodup_cons] at hn
    rw [List.map_cons, List.nodup_cons]
    refine ⟨fun hm => ?_, nodup_on f l (fun x hx y hy => h x (List.mem_cons_of_mem _ hx) y (List.mem_cons_of_mem _ hy)) hn.2⟩
    obtain ⟨b, hb, e⟩ := List.mem_map.1 hm
    exact hn.1 (h b (List.mem_cons_of_mem _ hb) a (List.mem_cons_self ..) e ▸ hb)
def gone (n : Nat) (is : Nat → Bool) : List Nat := (List.range n).filter is
def bad (e : List F) (n : Nat) (is : Nat → Bool) : List Nat := (List.range n).filter (fun i => !is i && nz (at_ e i))
theorem mem_gone {n i : Nat} {is : Nat → Bool} : i ∈ gone n is ↔ i < n ∧ is i = true := by
  unfold gone
  rw [List.mem_filter, List.mem_range]
theorem mem_bad {e : List F} {n i : Nat} {is : Nat → Bool} : i ∈ bad e n is ↔ i < n ∧ is i = false ∧ at_ e i ≠ 0 := by
  unfold bad nz
  rw [List.mem_filter, List.mem_range]
  simp
theorem split_nodup (e : List F) (n : Nat) (hn : n ≤ 255) (is : Nat → Bool) : (((gone n is).map (pr e n) ++ (bad e n is).map (pr e n)).map Prod.snd).Nodup := by
  rw [← List.map_append, List.map_map]
  refine nodup_on _ _ (fun a ha b hb hab => ?_) ?_
  · have ha' : a < n := (List.mem_append.1 ha).elim (fun h => (mem_gone.1 h).1) (fun h => (mem_bad.1 h).1)
    have hb' : b < n := (List.mem_append.1 hb).elim (fun h => (mem_gone.1 h).1) (fun h => (mem_bad.1 h).1)
    exact plc_inj hn ha' hb' hab
  · rw [List.nodup_append]
    refine ⟨List.nodup_range.filter _, List.nodup_range.filter _, fun a ha b hb hab => ?_⟩
    subst hab
    rw [mem_gone] at ha
    rw [mem_bad] at hb
    rw [ha.2] at hb
    cases hb.2.1
theorem split_es (e : List F) (is : Nat → Bool) (m : Nat) : es (fun x => pow x m) ((gone e.length is).map (pr e e.length) ++ (bad e e.length is).map (pr e e.length)) = wv e (pow two m) := by
  rw [← es_all]
  refine (es_parts _ _ _ _ _ (fun a _ h => by rw [h]; rfl) (fun a _ h h2 => ?_)).symm
  rw [h] at h2
  refine Decidable.byContradiction (fun hc => ?_)
  have : nz (at_ e a) = true := by unfold nz; exact decide_eq_true hc
  rw [this] at h2
  cases h2
def mid (k n r : Nat) (S p0 w : List Int) : Option (Option (List Int)) :=
  (mk_key k S p0).bind fun q => if q.2 > r then some none else (mk_over k q.1 S q.2 r 0 mk_zeros).bind fun ov => mk_fix k n r q.2 q.1 ov (mk_slope q.1 ((q.2 + 1) / 2) 1 mk_zeros) n 0 w
theorem at_zeros (m : Nat) : at_ (List.replicate 66 (0 : F)) m = 0 := at_replicate 66 m
theorem zeros_L : mk_zeros = L (List.replicate 66 0) := L_replicate 66
theorem mid_run (k : Nat) (hk : 18 ≤ k) (w : List F) (r : Nat) (h64 : r ≤ 64) (hn : w.length ≤ 255) (is : Nat → Bool) (f : Nat) (hf : (gone w.length is).length = f) (hfr : f ≤ r) (p0 : List F) (hp0 : p0.length = f + 1) (h0 : at_ p0 0 = 1) (hroot : ∀ i, i < w.length → is i = true → evp p0 (inv (plc w.length i)) = 0) :
    ∃ ob : Option (List F), mid k w.length r (L (syn w r)) (L p0) (L w) = some (ob.map L) ∧ (∀ b, ob = some b → b.length = w.length) ∧ (∀ c, c.length = w.length → Code r c → 2 * (bad (lay w c) w.length is).length + f ≤ r → ob = some c) := by
  have main : ∀ c : List F, c.length = w.length → Code r c → ∃ ob : Option (List F), mid k w.length r (L (syn w r)) (L p0) (L w) = some (ob.map L) ∧ (∀ b, ob = some b → b.length = w.length) ∧ (2 * (bad (lay w c) w.length is).length + f ≤ r → ob = some c) := by
    intro c hc hcode
    obtain ⟨e, he⟩ : ∃ e, e = lay w c := ⟨_, rfl⟩
    have hel : e.length = w.length := by rw [he]; exact lay_length hc.symm
    obtain ⟨A, hA⟩ : ∃ A, A = (gone w.length is).map (pr e w.length) := ⟨_, rfl⟩
    obtain ⟨W, hW⟩ : ∃ W, W = (bad e w.length is).map (pr e w.length) := ⟨_, rfl⟩
    have hAl : A.length = f := by rw [hA, List.length_map, hf]
    have hWl : W.length = (bad e w.length is).length := by rw [hW, List.length_map]
    have hx : ∀ q ∈ A ++ W, q.2 ≠ 0 := fun q hq => by
      rw [hA, hW, ← List.map_append] at hq
      obtain ⟨i, _, rfl⟩ := List.mem_map.1 hq
      exact plc_ne _ _
    have hS : ∀ m, m < (syn w r).length → at_ (syn w r) m = es (fun x => pow x m) (A ++ W) := fun m hm => by
      rw [syn_length] at hm
      have h1 := split_es e is m
      rw [hel, ← hA, ← hW] at h1
      rw [h1, at_syn w r m hm, he, wv_lay w c _ hc.symm, hcode m hm, add_zero]
    have hrt : ∀ q ∈ A, evp p0 (inv q.2) = 0 := fun q hq => by
      rw [hA] at hq
      obtain ⟨i, hi, rfl⟩ := List.mem_map.1 hq
      obtain ⟨h1, h2⟩ := mem_gone.1 hi
      exact hroot i h1 h2
    obtain ⟨s, hkey, hinv, hsz⟩ := key_run k hk hx (syn w r) (by rw [syn_length]; exact h64) hS p0 (by rw [hAl]; exact hp0) (by rw [hAl, syn_length]; exact hfr) h0 hrt
    rw [syn_length] at hinv
    have hln := hinv.ln
    unfold mid
    rw [hkey, Option.bind_some, if_neg (show ¬ s.l > r by omega)]
    obtain ⟨ov, g1, g2, g3⟩ := over_run' k (by omega) s.now (syn w r) s.l r 0 (List.replicate 66 0) (by rw [List.length_replicate]; omega)
    obtain ⟨sl, s1, s2, s3⟩ := slope_run s.now ((s.l + 1) / 2) 1 (List.replicate 66 0) (Nat.le_refl _) (by rw [List.length_replicate]; omega)
    have ho : ∀ j, at_ ov j = if j < r then sm (fun i => at_ s.now i * es (fun x => pow x (j - i)) (A ++ W)) (j + 1) else 0 := fun j => by
      rw [g3 j, at_zeros]
      by_cases h : j < r
      · rw [if_pos (by omega), if_pos h, zero_add, sm_congr _ (g := fun i => at_ s.now i * es (fun x => pow x (j - i)) (A ++ W)) (fun i _ => by rw [hS _ (by rw [syn_length]; omega)])]
        obtain ⟨d, hd⟩ : ∃ d, j + 1 = min s.l j + 1 + d := ⟨j - min s.l j, by omega⟩
        rw [hd]
        refine (sm_tail _ d (fun i h1 h2 => ?_)).symm
        rw [hinv.deg i (by omega), zero_mul]
      · rw [if_neg (by omega), if_neg h]
    have hs : ∀ m, at_ sl m = if m % 2 = 0 then at_ s.now (m + 1) else 0 := fun m => by
      rw [s3 m, at_zeros]
      by_cases h : m % 2 = 0
      · rw [if_pos h]
        by_cases h1 : m < 2 * ((s.l + 1) / 2)
        · rw [if_pos (by omega)]
        · rw [if_neg (by omega), hinv.deg (m + 1) (by omega)]
      · rw [if_neg h, if_neg (by omega)]
    show ∃ ob, (mk_over k (L s.now) (L (syn w r)) s.l r 0 mk_zeros).bind _ = _ ∧ _
    rw [zeros_L, g1, Option.bind_some]
    show ∃ ob, mk_fix k w.length r s.l (L s.now) (L ov) (mk_slope (L s.now) ((s.l + 1) / 2) 1 (L (List.replicate 66 0))) w.length 0 (L w) = _ ∧ _
    rw [s1]
    obtain ⟨ob, f1, f2, f3⟩ := fix_run k hk w.length r s.l hn s.now ov sl (fun m hm => hinv.deg m (by omega)) (fun m hm => by rw [ho, if_neg (by omega)]) (fun m hm => by
      rw [hs]
      split
      · exact hinv.deg _ (by omega)
      · rfl) w.length 0 w (Nat.zero_add _) rfl
    refine ⟨ob, f1, f2, fun hreach => ?_⟩
    rw [← he] at hreach
    have hnd := split_nodup e w.length hn is
    rw [← hA, ← hW] at hnd
    obtain ⟨hdl, hdr⟩ := hinv.done hx hnd (fun q hq => by
      rw [hW] at hq
      obtain ⟨i, hi, rfl⟩ := List.mem_map.1 hq
      exact (mem_bad.1 hi).2.2) (by rw [hAl, hWl]; omega)
    have hE : ∀ i, i < w.length → evp s.now (inv (plc w.length i)) = 0 → (at_ e i, plc w.length i) ∈ A ++ W := fun i hi h => by
      obtain ⟨q, hq, hq2⟩ := List.mem_map.1 ((hdr _ (plc_ne _ _)).1 h)
      have hq' := hq
      rw [hA, hW, ← List.map_append] at hq'
      obtain ⟨j, hj, rfl⟩ := List.mem_map.1 hq'
      have hj' : j < w.length := (List.mem_append.1 hj).elim (fun h => (mem_gone.1 h).1) (fun h => (mem_bad.1 h).1)
      have := plc_inj hn hj' hi hq2
      subst this
      exact hq
    have hfor : ∀ q ∈ A ++ W, evp sl (inv q.2) ≠ 0 ∧ q.2 * evp ov (inv q.2) = q.1 * evp sl (inv q.2) := fun q hq =>
      forney hx hnd hinv.one hinv.deg (by rw [hdl, List.length_append]) (by omega) (fun q hq => (hdr q.2 (hx q hq)).2 (List.mem_map_of_mem hq)) ho hs q hq
    obtain ⟨b, hb, hb2⟩ := f3 (fun j _ hj hz => (hfor _ (hE j hj hz)).1)
    rw [hb]
    congr 1
    refine ext_at ((f2 b hb).trans hc.symm) (fun m hm => ?_)
    have hm' : m < w.length := by rw [← f2 b hb]; exact hm
    rw [hb2 m hm', if_pos (Nat.zero_le m)]
    have hfix : fixv w.length s.now ov sl m = at_ e m := by
      unfold fixv
      by_cases hz : evp s.now (inv (plc w.length m)) = 0
      · rw [if_pos hz]
        obtain ⟨k1, k2⟩ := hfor _ (hE m hm' hz)
        dsimp only at k1 k2
        rw [k2, mul_assoc, mul_inv _ k1, mul_one]
      · rw [if_neg hz]
        refine Decidable.byContradiction (fun hc2 => hz ?_)
        refine (hdr _ (plc_ne _ _)).2 ?_
        have hmem : m ∈ gone w.length is ++ bad e w.length is := by
          rw [List.mem_append, mem_gone, mem_bad]
          cases his : is m with
          | true => exact Or.inl ⟨hm', rfl⟩
          | false => exact Or.inr ⟨hm', rfl, fun h => hc2 h.symm⟩
        rw [hA, hW, ← List.map_append, List.map_map]
        exact List.mem_map.2 ⟨m, hmem, rfl⟩
    rw [hfix, he, at_lay w c m hc.symm, add_cancel]
  obtain ⟨ob, h1, h2, _⟩ := main (List.replicate w.length 0) List.length_replicate (fun i _ => by
    have := wv_zeros w.length [] (pow two i)
    rw [List.append_nil] at this
    exact this)
  refine ⟨ob, h1, h2, fun c hc hcode hreach => ?_⟩
  obtain ⟨ob', h3, _, h4⟩ := main c hc hcode
  have h5 : some (ob.map L) = some (ob'.map L) := h1.symm.trans h3
  rw [h4 hreach] at h5
  have h6 := Option.some.inj h5
  cases ob with
  | none => cases h6
  | some b => rw [L_inj (Option.some.inj h6)]
end Go.Proofs.Ytncoakokdajibaa.Sem
