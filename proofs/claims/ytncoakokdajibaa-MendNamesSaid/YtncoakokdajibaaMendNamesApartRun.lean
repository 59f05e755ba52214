import Derived.Test.YtncoakokdajibaaMendNamesReedRun
import Derived.Test.YtncoakokdajibaaMendNamesF0
/- How far two words are apart, and what a change at one place makes of it. -/
namespace Go.Proofs.Ytncoakokdajibaa.Sem
open Go.RowKit Go.Proofs.Ytncoakokdajibaa.Q Go.Proofs.YtncoakokdajibaaW.PrintWords Go.Proofs.YtncoakokdajibaaW.PrintLast Go.Proofs.YtncoakokdajibaaW.PrintMore Go.Proofs.Ytncoakokdajibaa.Gf

theorem bytesOf_B (p : List F) : bytesOf (B p) = L p := by
  unfold bytesOf L
  rw [B_data, List.toList_toArray, List.map_map]
  refine List.map_congr_left (fun a _ => ?_)
  show (((UInt8.ofNat a.val).toNat : Nat) : Int) = I a
  rw [u8_of_F]
  rfl
theorem wt_snoc (p : List F) (a : F) : wt (p ++ [a]) = wt p + if a = 0 then 0 else 1 := by
  rw [wt_append]
  congr 1
  by_cases h : a = 0
  · subst h; rw [if_pos rfl]; rfl
  · rw [if_neg h]
    show List.countP nz [a] = 1
    have hz : nz a = true := decide_eq_true h
    rw [List.countP_cons_of_pos hz]
    rfl
theorem wt_set : ∀ (p : List F) (k : Nat) (a : F), k < p.length → at_ p k = 0 → a ≠ 0 → wt (p.set k a) = wt p + 1
  | [], k, _, h, _, _ => absurd h (Nat.not_lt_zero k)
  | b :: p, 0, a, _, h0, ha => by
    have hb : b = 0 := h0
    subst hb
    show List.countP nz (a :: p) = List.countP nz (0 :: p) + 1
    have hz : nz a = true := decide_eq_true ha
    rw [List.countP_cons_of_pos hz, List.countP_cons_of_neg (by decide)]
  | b :: p, k + 1, a, h, h0, ha => by
    have ih := wt_set p k a (by simpa using h) h0 ha
    show List.countP nz (b :: p.set k a) = List.countP nz (b :: p) + 1
    have ih' : List.countP nz (p.set k a) = List.countP nz p + 1 := ih
    by_cases hb : nz b = true
    · rw [List.countP_cons_of_pos hb, List.countP_cons_of_pos hb, ih']
    · rw [List.countP_cons_of_neg hb, List.countP_cons_of_neg hb, ih']
theorem wt_zero {p : List F} (h : wt p = 0) (n : Nat) : at_ p n = 0 := by
  by_cases hn : n < p.length
  · have h2 := List.countP_eq_zero.1 h (p[n]) (List.getElem_mem hn)
    rw [at_lt p n hn]
    refine Decidable.byContradiction (fun hne => h2 (decide_eq_true hne))
  · exact at_ge p n (by omega)
theorem dist_self (u : List F) : dist u u = 0 := by unfold dist; rw [lay_self, wt_zeros]
theorem eq_of_dist {u v : List F} (hl : u.length = v.length) (h : dist u v = 0) : u = v := eq_of_lay_zero hl (wt_zero h)
theorem dist_set {u v : List F} (hl : u.length = v.length) (k : Nat) (t : F) (hk : k < v.length) (he : at_ v k = at_ u k) (ht : t ≠ 0) : dist u (v.set k (at_ v k + t)) = dist u v + 1 := by
  unfold dist
  have hlen := lay_length hl
  have hs : lay u (v.set k (at_ v k + t)) = (lay u v).set k t := by
    have h1 : u.length = (v.set k (at_ v k + t)).length := by rw [List.length_set]; exact hl
    refine ext_at (by rw [lay_length h1, List.length_set, hlen]) (fun n _ => ?_)
    rw [at_lay _ _ _ h1, at_set _ _ _ _ hk, at_set _ _ _ _ (by omega)]
    by_cases e : n = k
    · rw [if_pos e, if_pos e, e, he, add_cancel]
    · rw [if_neg e, if_neg e, at_lay _ _ _ hl]
  rw [hs]
  exact wt_set _ _ _ (by omega) (by rw [at_lay _ _ _ hl, he, add_self]) ht
theorem apart_l0 (u v : List F) (hl : u.length = v.length) (hu : u.length ≤ 140737488351232) (e : Nat) : ∀ (i c : Nat), i + e = u.length → c = wt (lay (u.take i) (v.take i)) →
    Ev (fun k => reed_Apart.l0 k (B u) (B v) (c : Int) (u.length : Int) (i : Int)) ((dist u v : Nat), 0) := by
  induction e with
  | zero =>
    intro i c hi hc
    refine Ev.stepTo _ (fun k _ => by rw [reed_Apart.l0, if_neg (by omega)]) ?_
    rw [hc, List.take_of_length_le (by omega), List.take_of_length_le (by omega)]
    exact Ev.now _
  | succ e ih =>
    intro i c hi hc
    have hs : lay (u.take (i + 1)) (v.take (i + 1)) = lay (u.take i) (v.take i) ++ [at_ u i + at_ v i] := by
      rw [take_succ_at u i (by omega), take_succ_at v i (by omega), lay_append _ _ _ _ (by rw [List.length_take, List.length_take]; omega)]
      rfl
    have hle : c ≤ i := by
      rw [hc]
      refine Nat.le_trans (wt_le _) ?_
      rw [lay_length (by rw [List.length_take, List.length_take]; omega), List.length_take]
      omega
    by_cases h : at_ u i = at_ v i
    · refine Ev.stepTo _ (fun k _ => by rw [reed_Apart.l0, if_pos (by omega), if_pos (by omega), if_pos (by rw [B_size]; omega), if_pos (by rw [B_size]; omega), bt_B, bt_B, Int.toNat_natCast, if_pos (by rw [h]), wrap_id _ (by omega) (by omega), show ((i : Int) + 1) = ((i + 1 : Nat) : Int) from by omega]) ?_
      refine ih (i + 1) c (by omega) ?_
      rw [hs, wt_snoc, if_pos (by rw [h, add_self]), hc]
      rfl
    · have hw : wrap64 ((c : Int) + 1) = ((c + 1 : Nat) : Int) := by rw [wrap_id _ (by omega) (by omega)]; omega
      refine Ev.stepTo _ (fun k _ => by rw [reed_Apart.l0, if_pos (by omega), if_pos (by omega), if_pos (by rw [B_size]; omega), if_pos (by rw [B_size]; omega), bt_B, bt_B, Int.toNat_natCast, if_neg (fun e => h (I_inj e)), hw, wrap_id _ (by omega) (by omega), show ((i : Int) + 1) = ((i + 1 : Nat) : Int) from by omega]) ?_
      refine ih (i + 1) (c + 1) (by omega) ?_
      rw [hs, wt_snoc, if_neg (fun e => h (eq_of_add_zero e)), hc]
theorem apart_ev (u v : List F) (hl : u.length = v.length) (hu : u.length ≤ 140737488351232) : Ev (fun k => reed_Apart.f k (B u) (B v)) ((dist u v : Nat), 0) := by
  refine Ev.congr (fun k => by rw [reed_Apart.f, toNat_len, toNat_len, if_pos (by omega)]) ?_
  exact apart_l0 u v hl hu u.length 0 0 (Nat.zero_add _) rfl
theorem apart_no (u v : List F) (hl : u.length ≠ v.length) (k : Nat) : reed_Apart.f k (B u) (B v) = some (0, 1) := by
  rw [reed_Apart.f, toNat_len, toNat_len, if_neg (by omega)]
end Go.Proofs.Ytncoakokdajibaa.Sem
