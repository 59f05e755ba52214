import Derived.Test.YtncoakokdajibaaMendManyBm
import Derived.Test.YtncoakokdajibaaMendManyReedRun
import Derived.Test.YtncoakokdajibaaMendManyF1
/- The program's way of mending, over the field: what its loops come to. -/
namespace Go.Proofs.Ytncoakokdajibaa.Sem
open Go.RowKit Go.Proofs.Ytncoakokdajibaa.Q Go.Proofs.YtncoakokdajibaaW.PrintWords Go.Proofs.YtncoakokdajibaaW.PrintLast Go.Proofs.YtncoakokdajibaaW.PrintMore Go.Proofs.Ytncoakokdajibaa.Gf
theorem over_run (k : Nat) (hk : 18 ≤ k) (a b : F) : field_Over.f k (I a) (I b) = some (if b = 0 then (0, 6) else (I (a * inv b), 0)) := by
  by_cases h : b = 0
  · rw [field_Over.f, if_pos (I_eq_zero.2 h), if_pos h]
  · rw [field_Over.f, if_neg (fun e => h (I_eq_zero.1 e)), raised_inv k hk, Option.bind_some, times k (by omega), Option.bind_some, if_neg h]
theorem unit_run (k : Nat) (hk : 18 ≤ k) (i n : Nat) (hi : i < n) (hn : n ≤ 255) : mend_unit.f k (i : Int) (n : Int) = some (I (pow two (n - 1 - i))) := by
  rw [mend_unit.f, wrap_id ((n : Int) - 1) (by omega) (by omega), wrap_id _ (by omega) (by omega), show ((n : Int) - 1 - (i : Int)) = ((n - 1 - i : Nat) : Int) by omega, exp_nat k hk, Option.bind_some]
theorem at_run (k : Nat) (hk : 9 ≤ k) (p : List F) (x : F) : ∀ d s, mk_at k (L p) (I x) d (I s) = some (I (s * pow x d + sm (fun j => at_ p j * pow x j) d))
  | 0, s => by rw [mk_at, sm, add_zero, show pow x 0 = 1 from rfl, mul_one]
  | d + 1, s => by
    rw [mk_at, times k hk, Option.bind_some, rd_L, Int.toNat_natCast, bx, at_run k hk p x d, sm, add_mul, show pow x (d + 1) = pow x d * x from rfl]
    congr 2
    have : s * x * pow x d = s * (pow x d * x) := by ac_rfl
    rw [this]
    ac_rfl
theorem at_evp (k : Nat) (hk : 9 ≤ k) (p : List F) (x : F) (d : Nat) (h : ∀ m, d ≤ m → at_ p m = 0) : mk_at k (L p) (I x) d 0 = some (I (evp p x)) := by
  have := at_run k hk p x d 0
  rw [I_zero] at this
  rw [this, zero_mul, zero_add, evp_sm x p d h]
theorem disc_run (k : Nat) (hk : 9 ≤ k) (p s : List F) (n : Nat) : ∀ c j d, mk_disc k (L p) (L s) n c j (I d) = some (I (d + sm (fun i => at_ p (j + i) * at_ s (n - (j + i))) c))
  | 0, j, d => by rw [mk_disc, sm, add_zero]
  | c + 1, j, d => by
    rw [mk_disc, rd_L, rd_L, Int.toNat_natCast, Int.toNat_natCast, times k hk, Option.bind_some, bx, disc_run k hk p s n c (j + 1), sm_head, add_assoc]
    congr 3
    rw [Nat.add_zero]
    congr 1
    refine sm_congr c (fun i _ => ?_)
    rw [show j + 1 + i = j + (i + 1) by omega]
theorem disc_at (k : Nat) (hk : 9 ≤ k) (p s : List F) (n c : Nat) (d : F) : mk_disc k (L p) (L s) n c 0 (I d) = some (I (d + sm (fun i => at_ p i * at_ s (n - i)) c)) := by
  rw [disc_run k hk]
  congr 3
  refine sm_congr c (fun i _ => ?_)
  rw [Nat.zero_add]
theorem next_run (k : Nat) (hk : 9 ≤ k) (b : F) (old : List F) (gap : Nat) : ∀ c j (x : List F), j + c + gap ≤ x.length → ∃ y : List F, mk_next k (I b) (L old) gap c j (L x) = some (L y) ∧ y.length = x.length ∧ ∀ m, at_ y m = if j + gap ≤ m ∧ m < j + c + gap then at_ x m + b * at_ old (m - gap) else at_ x m
  | 0, j, x, _ => ⟨x, by rw [mk_next], rfl, fun m => by rw [if_neg (by omega)]⟩
  | c + 1, j, x, h => by
    obtain ⟨y, h1, h2, h3⟩ := next_run k hk b old gap c (j + 1) (x.set (j + gap) (at_ x (j + gap) + b * at_ old j)) (by rw [List.length_set]; omega)
    refine ⟨y, ?_, by rw [h2, List.length_set], fun m => ?_⟩
    · rw [mk_next, rd_L, rd_L, Int.toNat_natCast, Int.toNat_natCast, times k hk, Option.bind_some, bx, L_set, h1]
    · rw [h3 m, at_set _ _ _ _ (by omega)]
      by_cases e : m = j + gap
      · subst e
        rw [if_neg (by omega), if_pos rfl, if_pos (by omega), Nat.add_sub_cancel]
      · rw [if_neg e]
        by_cases c1 : j + gap ≤ m ∧ m < j + (c + 1) + gap
        · rw [if_pos c1, if_pos (by omega)]
        · rw [if_neg c1, if_neg (by omega)]
theorem over_run' (k : Nat) (hk : 9 ≤ k) (p s : List F) (deg : Nat) : ∀ c j (x : List F), j + c ≤ x.length → ∃ y : List F, mk_over k (L p) (L s) deg c j (L x) = some (L y) ∧ y.length = x.length ∧ ∀ m, at_ y m = if j ≤ m ∧ m < j + c then at_ x m + sm (fun i => at_ p i * at_ s (m - i)) (min deg m + 1) else at_ x m
  | 0, j, x, _ => ⟨x, by rw [mk_over], rfl, fun m => by rw [if_neg (by omega)]⟩
  | c + 1, j, x, h => by
    obtain ⟨y, h1, h2, h3⟩ := over_run' k hk p s deg c (j + 1) (x.set j (at_ x j + sm (fun i => at_ p i * at_ s (j - i)) (min deg j + 1))) (by rw [List.length_set]; omega)
    refine ⟨y, ?_, by rw [h2, List.length_set], fun m => ?_⟩
    · rw [mk_over, rd_L, Int.toNat_natCast, disc_at k hk, Option.bind_some, L_set, h1]
    · rw [h3 m, at_set _ _ _ _ (by omega)]
      by_cases e : m = j
      · subst e
        rw [if_neg (by omega), if_pos rfl, if_pos (by omega)]
      · rw [if_neg e]
        by_cases c1 : j ≤ m ∧ m < j + (c + 1)
        · rw [if_pos c1, if_pos (by omega)]
        · rw [if_neg c1, if_neg (by omega)]
theorem slope_run (p : List F) : ∀ c j (x : List F), 1 ≤ j → j + 2 * c ≤ x.length + 2 → ∃ y : List F, mk_slope (L p) c j (L x) = L y ∧ y.length = x.length ∧ ∀ m, at_ y m = if j - 1 ≤ m ∧ m < j - 1 + 2 * c ∧ (m + 1 - j) % 2 = 0 then at_ p (m + 1) else at_ x m
  | 0, j, x, _, _ => ⟨x, by rw [mk_slope], rfl, fun m => by rw [if_neg (by omega)]⟩
  | c + 1, j, x, hj, h => by
    obtain ⟨y, h1, h2, h3⟩ := slope_run p c (j + 2) (x.set (j - 1) (at_ p j)) (by omega) (by rw [List.length_set]; omega)
    refine ⟨y, ?_, by rw [h2, List.length_set], fun m => ?_⟩
    · rw [mk_slope, rd_L, Int.toNat_natCast, L_set, h1]
    · rw [h3 m, at_set _ _ _ _ (by omega)]
      by_cases e : m = j - 1
      · subst e
        rw [if_neg (by omega), if_pos rfl, if_pos (by omega), Nat.sub_add_cancel hj]
      · rw [if_neg e]
        by_cases c1 : j - 1 ≤ m ∧ m < j - 1 + 2 * (c + 1) ∧ (m + 1 - j) % 2 = 0
        · rw [if_pos c1, if_pos (by omega)]
        · rw [if_neg c1, if_neg (by omega)]
def kst (s : Bm) : Kst := ⟨L s.now, L s.old, s.l, I s.last, s.gap⟩
structure Sized (s : Bm) : Prop where
  now : s.now.length = 66
  old : s.old.length = 66
theorem round_run (k : Nat) (hk : 18 ≤ k) {A W : List (F × F)} (hx : ∀ q ∈ A ++ W, q.2 ≠ 0) (S : List F) (h64 : S.length ≤ 64) (hS : ∀ m, m < S.length → at_ S m = es (fun x => pow x m) (A ++ W)) (n : Nat) (hn : n < S.length) (s : Bm) (hi : Inv A W n s) (hz : Sized s) :
    ∃ s', mk_round k (L S) A.length n (kst s) = some (kst s') ∧ Inv A W (n + 1) s' ∧ Sized s' := by
  have hln := hi.ln
  obtain ⟨l0, N0, p1, p2, p3, p4, _, _⟩ := hi.prev
  have hgap := hi.gap1
  have hfl := hi.fl
  obtain ⟨d, hd⟩ : ∃ d, es (fun x => pow x n * evp s.now (inv x)) (A ++ W) = d := ⟨_, rfl⟩
  have e1 : mk_disc k (L s.now) (L S) n (min s.l n + 1) 0 0 = some (I d) := by
    have h1 := disc_at k (by omega) s.now S n (min s.l n + 1) 0
    rw [I_zero] at h1
    rw [h1, zero_add, Nat.min_eq_left hln, ← hd, ← hi.disc hx]
    congr 2
    refine sm_congr _ (fun i _ => ?_)
    rw [hS _ (by omega)]
  unfold mk_round
  rw [if_pos (show (kst s).l < 66 ∧ (kst s).gap ≤ 1000 from ⟨by show s.l < 66; omega, by show s.gap ≤ 1000; omega⟩)]
  show ∃ s', (mk_disc k (L s.now) (L S) n (min s.l n + 1) 0 0).bind _ = _ ∧ _
  rw [e1, Option.bind_some]
  by_cases h0 : d = 0
  · subst h0
    exact ⟨{ s with gap := s.gap + 1 }, by rw [if_pos I_zero]; rfl, hi.same hd, ⟨hz.now, hz.old⟩⟩
  · obtain ⟨y, h1, h2, h3⟩ := next_run k (by omega) (d * inv s.last) s.old s.gap (66 - s.gap) 0 s.now (by rw [hz.now]; omega)
    have e2 : ∀ m, at_ y m = at_ s.now m + d * inv s.last * at_ (List.replicate s.gap 0 ++ s.old) m := fun m => by
      rw [h3, at_zpow]
      by_cases c1 : m < s.gap
      · rw [if_neg (by omega), if_pos c1, mul_zero, add_zero]
      · rw [if_neg c1]
        by_cases c2 : m < 66
        · rw [if_pos (by omega)]
        · rw [if_neg (by omega), p4 (m - s.gap) (by omega), mul_zero, add_zero]
    rw [if_neg (fun e => h0 (I_eq_zero.1 e))]
    show ∃ s', (field_Over.f k (I d) (I s.last)).bind _ = _ ∧ _
    rw [over_run k hk, if_neg hi.last0, Option.bind_some]
    show ∃ s', (mk_next k (I (d * inv s.last)) (L s.old) s.gap (66 - s.gap) 0 (L s.now)).bind _ = _ ∧ _
    rw [h1, Option.bind_some]
    by_cases c : 2 * s.l ≤ n + A.length
    · exact ⟨⟨y, s.now, n + 1 + A.length - s.l, 1, d⟩, by rw [if_pos (show 2 * (kst s).l ≤ n + A.length from c)]; rfl, hi.long hx hd h0 e2 c, ⟨h2.trans hz.now, hz.now⟩⟩
    · exact ⟨{ s with now := y, gap := s.gap + 1 }, by rw [if_neg (show ¬ 2 * (kst s).l ≤ n + A.length from c)]; rfl, hi.short hx hd e2 (by omega), ⟨h2.trans hz.now, hz.old⟩⟩
theorem loop_run (k : Nat) (hk : 18 ≤ k) {A W : List (F × F)} (hx : ∀ q ∈ A ++ W, q.2 ≠ 0) (S : List F) (h64 : S.length ≤ 64) (hS : ∀ m, m < S.length → at_ S m = es (fun x => pow x m) (A ++ W)) : ∀ c n (s : Bm), n + c = S.length → Inv A W n s → Sized s →
    ∃ s', mk_loop k (L S) A.length c n (kst s) = some (kst s') ∧ Inv A W S.length s' ∧ Sized s'
  | 0, n, s, hc, hi, hz => ⟨s, by rw [mk_loop], by rw [← hc]; exact hi, hz⟩
  | c + 1, n, s, hc, hi, hz => by
    obtain ⟨s1, h1, h2, h3⟩ := round_run k hk hx S h64 hS n (by omega) s hi hz
    obtain ⟨s2, g1, g2, g3⟩ := loop_run k hk hx S h64 hS c (n + 1) s1 (by omega) h2 h3
    exact ⟨s2, by rw [mk_loop, h1, Option.bind_some, g1], g2, g3⟩
theorem pad_L (p : List F) : mk_pad (L p) = L (p ++ List.replicate (66 - p.length) 0) := by
  unfold mk_pad
  rw [L_length, L_replicate, L_append]
theorem at_pad (p : List F) (c m : Nat) : at_ (p ++ List.replicate c 0) m = at_ p m := by
  rw [at_append]
  split
  · rfl
  · rw [at_replicate, at_ge p m (by omega)]
theorem key_run (k : Nat) (hk : 18 ≤ k) {A W : List (F × F)} (hx : ∀ q ∈ A ++ W, q.2 ≠ 0) (S : List F) (h64 : S.length ≤ 64) (hS : ∀ m, m < S.length → at_ S m = es (fun x => pow x m) (A ++ W)) (p : List F) (hp : p.length = A.length + 1) (hA : A.length ≤ S.length) (h0 : at_ p 0 = 1) (hr : ∀ q ∈ A, evp p (inv q.2) = 0) :
    ∃ s, mk_key k (L S) (L p) = some (L s.now, s.l) ∧ Inv A W S.length s ∧ Sized s := by
  have hl : (p ++ List.replicate (66 - p.length) 0).length = 66 := by rw [List.length_append, List.length_replicate]; omega
  have hi := Inv.start (A := A) (W := W) (p := p ++ List.replicate (66 - p.length) 0) (by rw [at_pad]; exact h0) (fun m hm => by rw [at_pad]; exact at_ge p m (by omega)) (fun q hq => by rw [evp_congr (fun m => at_pad p _ m)]; exact hr q hq)
  obtain ⟨s, h1, h2, h3⟩ := loop_run k hk hx S h64 hS (S.length - A.length) A.length _ (by omega) hi ⟨hl, hl⟩
  refine ⟨s, ?_, h2, h3⟩
  unfold mk_key
  rw [if_pos (by rw [L_length, L_length]; omega), L_length, L_length, hp, Nat.add_sub_cancel, pad_L, show (1 : Int) = I 1 from rfl]
  show (mk_loop k (L S) A.length (S.length - A.length) A.length (kst ⟨_, _, _, _, _⟩)).bind _ = _
  rw [h1]
  rfl
def plc (n i : Nat) : F := pow two (n - 1 - i)
theorem plc_ne (n i : Nat) : plc n i ≠ 0 := pow_ne_zero two_ne_zero _
theorem plc_inj {n i j : Nat} (hn : n ≤ 255) (hi : i < n) (hj : j < n) (h : plc n i = plc n j) : i = j := by
  have := pow_two_inj (m := n - 1 - i) (n := n - 1 - j) (by omega) (by omega) h
  omega
def fixv (n : Nat) (p ov sl : List F) (i : Nat) : F := if evp p (inv (plc n i)) = 0 then plc n i * evp ov (inv (plc n i)) * inv (evp sl (inv (plc n i))) else 0
theorem fix_run (k : Nat) (hk : 18 ≤ k) (n r deg : Nat) (hn : n ≤ 255) (p ov sl : List F) (hp : ∀ m, deg + 1 ≤ m → at_ p m = 0) (ho : ∀ m, r ≤ m → at_ ov m = 0) (hs : ∀ m, deg + 1 ≤ m → at_ sl m = 0) : ∀ c i (b : List F), i + c = n → b.length = n →
    ∃ ob : Option (List F), mk_fix k n r deg (L p) (L ov) (L sl) c i (L b) = some (ob.map L) ∧ (∀ b', ob = some b' → b'.length = n) ∧ ((∀ j, i ≤ j → j < n → evp p (inv (plc n j)) = 0 → evp sl (inv (plc n j)) ≠ 0) → ∃ b', ob = some b' ∧ ∀ m, m < n → at_ b' m = at_ b m + if i ≤ m then fixv n p ov sl m else 0)
  | 0, i, b, hc, hb => ⟨some b, by rw [mk_fix]; rfl, fun b' h => by rw [← Option.some.inj h]; exact hb, fun _ => ⟨b, rfl, fun m hm => by rw [if_neg (by omega), add_zero]⟩⟩
  | c + 1, i, b, hc, hb => by
    have hi : i < n := by omega
    have e1 : field_Over.f k 1 (I (plc n i)) = some (I (inv (plc n i)), 0) := by
      have := over_run k hk 1 (plc n i)
      rw [if_neg (plc_ne n i), one_mul, I_one] at this
      exact this
    have hstep : mk_fix k n r deg (L p) (L ov) (L sl) (c + 1) i (L b) = if evp p (inv (plc n i)) = 0 then (if evp sl (inv (plc n i)) = 0 then some none else mk_fix k n r deg (L p) (L ov) (L sl) c (i + 1) (L (b.set i (at_ b i + fixv n p ov sl i)))) else mk_fix k n r deg (L p) (L ov) (L sl) c (i + 1) (L b) := by
      rw [mk_fix, unit_run k hk i n hi hn, Option.bind_some, show pow two (n - 1 - i) = plc n i from rfl, e1, Option.bind_some]
      show (mk_at k (L p) (I (inv (plc n i))) (deg + 1) 0).bind _ = _
      rw [at_evp k (by omega) p _ (deg + 1) hp, Option.bind_some]
      by_cases h0 : evp p (inv (plc n i)) = 0
      · rw [if_pos (I_eq_zero.2 h0), if_pos h0]
        show (mk_at k (L ov) (I (inv (plc n i))) r 0).bind _ = _
        rw [at_evp k (by omega) ov _ r ho, Option.bind_some, times k (by omega), Option.bind_some]
        show (mk_at k (L sl) (I (inv (plc n i))) (deg + 1) 0).bind _ = _
        rw [at_evp k (by omega) sl _ (deg + 1) hs, Option.bind_some, over_run k hk, Option.bind_some]
        by_cases h1 : evp sl (inv (plc n i)) = 0
        · rw [if_pos h1, if_pos h1, if_neg (by decide)]
        · rw [if_neg h1, if_neg h1, if_pos rfl, rd_L, Int.toNat_natCast]
          show mk_fix k n r deg (L p) (L ov) (L sl) c (i + 1) ((L b).set i (Go.bits .xor .u8 (I (at_ b i)) (I (plc n i * evp ov (inv (plc n i)) * inv (evp sl (inv (plc n i))))))) = _
          rw [bx, L_set, fixv, if_pos h0]
      · rw [if_neg (fun e => h0 (I_eq_zero.1 e)), if_neg h0]
    rw [hstep]
    by_cases h0 : evp p (inv (plc n i)) = 0
    · rw [if_pos h0]
      by_cases h1 : evp sl (inv (plc n i)) = 0
      · rw [if_pos h1]
        refine ⟨none, rfl, ?_, ?_⟩
        · intro b' h
          cases h
        · intro h
          exact absurd h1 (h i (Nat.le_refl _) hi h0)
      · rw [if_neg h1]
        obtain ⟨ob, g1, g2, g3⟩ := fix_run k hk n r deg hn p ov sl hp ho hs c (i + 1) (b.set i (at_ b i + fixv n p ov sl i)) (by omega) (by rw [List.length_set]; exact hb)
        refine ⟨ob, g1, g2, fun h => ?_⟩
        obtain ⟨b', g4, g5⟩ := g3 (fun j hj => h j (by omega))
        refine ⟨b', g4, fun m hm => ?_⟩
        rw [g5 m hm, at_set _ _ _ _ (by omega)]
        by_cases e : m = i
        · subst e
          rw [if_pos rfl, if_neg (by omega), if_pos (Nat.le_refl _), add_zero]
        · rw [if_neg e]
          by_cases c1 : i ≤ m
          · rw [if_pos c1, if_pos (by omega)]
          · rw [if_neg c1, if_neg (by omega)]
    · rw [if_neg h0]
      obtain ⟨ob, g1, g2, g3⟩ := fix_run k hk n r deg hn p ov sl hp ho hs c (i + 1) b (by omega) hb
      refine ⟨ob, g1, g2, fun h => ?_⟩
      obtain ⟨b', g4, g5⟩ := g3 (fun j hj => h j (by omega))
      refine ⟨b', g4, fun m hm => ?_⟩
      rw [g5 m hm]
      by_cases e : m = i
      · subst e
        rw [if_neg (by omega), if_pos (Nat.le_refl _), fixv, if_neg h0]
      · by_cases c1 : i ≤ m
        · rw [if_pos c1, if_pos (by omega)]
        · rw [if_neg c1, if_neg (by omega)]
end Go.Proofs.Ytncoakokdajibaa.Sem
