import Derived.Test.YtncoakokdajibaaMendManyRMend2
import Derived.Test.YtncoakokdajibaaMendManyF1
/- The document's mending: the same answer for every word. -/
namespace Go.Proofs.Ytncoakokdajibaa.Sem
open Go.RowKit Go.Proofs.Ytncoakokdajibaa.Q Go.Proofs.YtncoakokdajibaaW.PrintWords Go.Proofs.YtncoakokdajibaaW.PrintLast Go.Proofs.YtncoakokdajibaaW.PrintMore Go.Proofs.Ytncoakokdajibaa.Gf
theorem Told_ker {n : Nat} {A : Nat → Nat → F} {y z : Nat → F} {x : List F} (h : Told n A y (some x)) (hz : Qs n A (fun _ => 0) z) : ∀ j, j < n → z j = 0 := fun j hj => by
  have h1 : Qs n A y (at_ x) := (h.2 _).2 (fun i _ => rfl)
  have h2 : Qs n A y (fun j => at_ x j + z j) := fun i hi => by
    rw [sm_congr (g := fun j => A i j * at_ x j + A i j * z j) n (fun j _ => mul_add _ _ _), sm_add, h1 i hi, hz i hi, add_zero]
  have h3 := (h.2 _).1 h2 j hj
  have h4 := congrArg (fun u => at_ x j + u) h3
  simp only [add_cancel, add_self] at h4
  exact h4
theorem es_index (g : F → F) : ∀ E : List (F × F), es g E = sm (fun j => (E.getD j (0, 0)).1 * g (E.getD j (0, 0)).2) E.length
  | [] => rfl
  | q :: E => by
    rw [List.length_cons, sm_head]
    show q.1 * g q.2 + es g E = _
    rw [es_index g E]
    rfl
theorem es_map (g : F → F) (e : List F) (n : Nat) (P : List Nat) : es g (P.map (pr e n)) = sm (fun j => at_ e (P.getD j 0) * g (plc n (P.getD j 0))) P.length := by
  rw [es_index, List.length_map]
  refine sm_congr _ (fun j hj => ?_)
  rw [List.getD_eq_getElem?_getD, List.getD_eq_getElem?_getD, List.getElem?_map, List.getElem?_eq_getElem hj]
  rfl
theorem es_range (g : F → F) (z X : Nat → F) (p : Nat) : es g ((List.range p).map (fun j => (z j, X j))) = sm (fun j => z j * g (X j)) p := by
  rw [es_index, range_len]
  exact sm_congr _ (fun j hj => by rw [getD_map _ _ _ _ hj])
structure Pair (W : List (F × F)) (h : F → F) : Prop where
  x0 : ∀ q ∈ W, q.2 ≠ 0
  e0 : ∀ q ∈ W, q.1 ≠ 0
  nd : (W.map Prod.snd).Nodup
  h0 : ∀ q ∈ W, h q.2 ≠ 0
theorem Pair.many {W : List (F × F)} {h : F → F} (hW : Pair W h) (t : List F) (f r : Nat) (ht : ∀ m, f ≤ m → m < r → at_ t m = es (fun x => pow x m * h x) W) (v : Nat) (hv : W.length < v) (hr : f + 2 * v ≤ r) {x : List F} (hT : Told v (fun i j => at_ t (f + v + i - (j + 1))) (fun i => at_ t (f + v + i)) (some x)) : False := by
  have hl0 : ∀ x ∈ W.map Prod.snd, x ≠ 0 := fun x hx => by
    obtain ⟨q, hq, rfl⟩ := List.mem_map.1 hx
    exact hW.x0 q hq
  have hk := Told_ker hT (z := at_ (loc (W.map Prod.snd))) (fun i hi => by
    rw [sm_congr (g := fun k => at_ (loc (W.map Prod.snd)) k * es (fun x => pow x (f + v + i - 1 - k) * h x) W) v (fun j hj => by
      show at_ t (f + v + i - (j + 1)) * _ = _
      rw [show f + v + i - (j + 1) = f + v + i - 1 - j by omega, ht _ (by omega) (by omega), mul_comm])]
    rw [disc W h hW.x0 (loc (W.map Prod.snd)) (f + v + i - 1) v (by omega) (fun k hk => loc_top _ k (by rw [List.length_map]; omega))]
    exact es_zero W (fun q hq => by rw [(loc_root _ hl0 q.2 (hW.x0 q hq)).2 (List.mem_map_of_mem hq), mul_zero, mul_zero])) 0 (by omega)
  rw [loc_zero] at hk
  exact one_ne_zero hk
theorem Pair.just {W : List (F × F)} {h : F → F} (hW : Pair W h) (t : List F) (f r : Nat) (ht : ∀ m, f ≤ m → m < r → at_ t m = es (fun x => pow x m * h x) W) (v : Nat) (hv : W.length = v) (hr : f + 2 * v ≤ r) {o : Option (List F)} (hT : Told v (fun i j => at_ t (f + v + i - (j + 1))) (fun i => at_ t (f + v + i)) o) : ∃ x, o = some x ∧ Sm (1 :: x) (loc (W.map Prod.snd)) := by
  have hl0 : ∀ x ∈ W.map Prod.snd, x ≠ 0 := fun x hx => by
    obtain ⟨q, hq, rfl⟩ := List.mem_map.1 hx
    exact hW.x0 q hq
  cases o with
  | none =>
    exfalso
    obtain ⟨z, ⟨j, hj, hz⟩, hQ⟩ := hT
    have hq : ∀ k, v ≤ k → at_ ((List.range v).map z) k = 0 := fun k hk => at_ge _ _ (by rw [range_len]; omega)
    have hfree := powers_free W (fun x => h x * evp ((List.range v).map z) (inv x)) hW.x0 hW.nd (f + v - 1) (fun m hm1 hm2 => by
      obtain ⟨i, rfl⟩ : ∃ i, m = f + v + i - 1 := ⟨m - (f + v - 1), by omega⟩
      have hd := disc W h hW.x0 ((List.range v).map z) (f + v + i - 1) v (by omega) hq
      have h0 : sm (fun j => at_ t (f + v + i - (j + 1)) * z j) v = 0 := hQ i (by omega)
      rw [sm_congr (g := fun k => at_ ((List.range v).map z) k * es (fun x => pow x (f + v + i - 1 - k) * h x) W) v (fun j hj => by
        rw [show f + v + i - (j + 1) = f + v + i - 1 - j by omega, ht _ (by omega) (by omega), mul_comm, at_map _ _ _ hj]), hd] at h0
      rw [← h0]
      exact es_congr W (fun q _ => (mul_assoc _ _ _).symm))
    have hroot : ∀ q ∈ W, evp ((List.range v).map z) (inv q.2) = 0 := fun q hqW => by
      rcases mul_eq_zero (hfree q hqW) with h1 | h1
      · exact absurd h1 (hW.e0 q hqW)
      · exact (mul_eq_zero h1).resolve_left (hW.h0 q hqW)
    have hall := roots_few ((W.map Prod.snd).map inv) ((List.range v).map z) (nodup_inv _ hl0 hW.nd) (by rw [range_len, List.length_map, List.length_map]; omega) (fun y hy => by
      obtain ⟨u, hu, rfl⟩ := List.mem_map.1 hy
      obtain ⟨q, hqW, rfl⟩ := List.mem_map.1 hu
      exact hroot q hqW) j
    rw [at_map _ _ _ hj] at hall
    exact hz hall
  | some x =>
    refine ⟨x, rfl, ?_⟩
    have hsol : Qs v (fun i j => at_ t (f + v + i - (j + 1))) (fun i => at_ t (f + v + i)) (fun j => at_ (loc (W.map Prod.snd)) (j + 1)) := fun i hi => by
      have hd := disc W h hW.x0 (loc (W.map Prod.snd)) (f + v + i) (v + 1) (by omega) (fun k hk => loc_top _ k (by rw [List.length_map]; omega))
      rw [es_zero W (fun q hq => by rw [(loc_root _ hl0 q.2 (hW.x0 q hq)).2 (List.mem_map_of_mem hq), mul_zero, mul_zero]), sm_head, loc_zero, one_mul] at hd
      show _ = at_ t (f + v + i)
      rw [ht _ (by omega) (by omega)]
      rw [sm_congr (g := fun k => at_ (loc (W.map Prod.snd)) (k + 1) * es (fun x => pow x (f + v + i - (k + 1)) * h x) W) v (fun j hj => by
        show at_ t (f + v + i - (j + 1)) * _ = _
        rw [ht _ (by omega) (by omega), mul_comm])]
      exact (eq_of_add_zero hd).symm
    have hx := (hT.2 _).1 hsol
    intro m
    cases m with
    | zero => rw [loc_zero]; rfl
    | succ m =>
      rw [at_cons_succ]
      by_cases hm : m < v
      · exact (hx m hm).symm
      · rw [at_ge x m (by rw [hT.1]; omega), loc_top _ _ (by rw [List.length_map]; omega)]
def tsum (p S : List F) (m : Nat) : F := sm (fun i => at_ p i * at_ S (m - i)) (min p.length (m + 1))
theorem set_self (t : List F) (k : Nat) : t.set k (at_ t k) = t := by
  by_cases h : k < t.length
  · refine ext_at (List.length_set ..) (fun m _ => ?_)
    rw [at_set _ _ _ _ h]
    by_cases e : m = k
    · rw [if_pos e, e]
    · rw [if_neg e]
  · exact List.set_eq_of_length_le (by omega)
theorem set_set (t : List F) (k : Nat) (a b : F) : (t.set k a).set k b = t.set k b := List.set_set ..
theorem mt_l1 (wB : ByteArray) (r : Nat) (hr : r ≤ 64) (l : List Int) (M : List Bool) (fI : Int) (S p : List F) (hS : S.length = r) (hp : p.length ≤ 256) (X : ByteArray × List Int × List Int × Int) (t : List F) (ht : t.length = r) (m : Nat) (hm : m < r)
    (H : Ev (fun k => foghornref20_Mend.l0 k wB (r : Int) l M fI (L S) (L p) (L (t.set m (at_ t m + tsum p S m))) ((m + 1 : Nat) : Int)) X) (d : Nat) : ∀ i, i + d = min p.length (m + 1) →
    Ev (fun k => foghornref20_Mend.l1 k wB (r : Int) l M fI (L S) (L p) (L (t.set m (at_ t m + sm (fun i => at_ p i * at_ S (m - i)) i))) (m : Int) (i : Int)) X := by
  induction d with
  | zero =>
    intro i hi
    have e : wrap64 ((m : Int) + 1) = ((m + 1 : Nat) : Int) := by rw [wrap_id _ (by omega) (by omega)]; omega
    have hi' : i = min p.length (m + 1) := by omega
    refine Ev.stepTo2 _ (fun k _ => ?_) H
    rw [foghornref20_Mend.l1]
    by_cases c : (i : Int) < ((L p).length : Int)
    · rw [if_pos c, if_neg (by rw [L_length] at c; omega), e, hi']
      rfl
    · rw [if_neg c, e, hi']
      rfl
  | succ d ih =>
    intro i hi
    refine Ev.stepTo2 _ (fun k _ => by rw [foghornref20_Mend.l1, if_pos (by rw [L_length]; omega), if_pos (by omega), if_pos (by omega), if_pos (by rw [L_length, List.length_set]; omega), if_pos (by omega), wrap_id _ (by omega) (by omega), if_pos (by omega), if_pos (by rw [L_length]; omega), show ((m : Int) - (i : Int)) = ((m - i : Nat) : Int) by omega, rd_L, rd_L, Int.toNat_natCast, Int.toNat_natCast]) ?_
    refine Ev.bind (rtimes_ev _ _) ?_
    refine Ev.congr (fun k => ?_) (ih (i + 1) (by omega))
    rw [rd_L, Int.toNat_natCast, bx, L_set, set_set, at_set _ _ _ _ (by omega), if_pos rfl, add_assoc, wrap_id _ (by omega) (by omega), show ((i : Int) + 1) = ((i + 1 : Nat) : Int) from by omega]
    rfl
theorem mt_l0 (wB : ByteArray) (r : Nat) (hr : r ≤ 64) (l : List Int) (M : List Bool) (f : Nat) (hf : f ≤ r) (S p : List F) (hS : S.length = r) (hp : p.length ≤ 256) (X : ByteArray × List Int × List Int × Int) (d : Nat) : ∀ (m : Nat) (t : List F), m + d = r → t.length = r →
    (∀ t' : List F, t'.length = r → (∀ q, at_ t' q = if m ≤ q ∧ q < r then at_ t q + tsum p S q else at_ t q) → Ev (fun k => foghornref20_Mend.l2 k wB (r : Int) l M (f : Int) (L S) (L t') (((r - f) / 2 : Nat) : Int)) X) →
    Ev (fun k => foghornref20_Mend.l0 k wB (r : Int) l M (f : Int) (L S) (L p) (L t) (m : Int)) X := by
  induction d with
  | zero =>
    intro m t hm ht H
    obtain rfl : m = r := by omega
    refine Ev.stepTo2 _ (fun k _ => ?_) (H t ht (fun q => by rw [if_neg (by omega)]))
    rw [foghornref20_Mend.l0, if_neg (by omega), wrap_id ((m : Int) - (f : Int)) (by omega) (by omega), show ((m : Int) - (f : Int)) = ((m - f : Nat) : Int) by omega, Int.tdiv_eq_ediv_of_nonneg (by omega), wrap_id _ (by omega) (by omega)]
    congr 1
  | succ d ih =>
    intro m t hm ht H
    have h1 := ih (m + 1) (t.set m (at_ t m + tsum p S m)) (by omega) (by rw [List.length_set]; exact ht) (fun t' e1 e2 => H t' e1 (fun q => by
      rw [e2 q, at_set _ _ _ _ (by omega)]
      by_cases e : q = m
      · rw [if_neg (by omega), if_pos e, if_pos (by omega), e]
      · rw [if_neg e]
        by_cases e3 : m ≤ q ∧ q < r
        · rw [if_pos (by omega), if_pos e3]
        · rw [if_neg (by omega), if_neg e3]))
    have h2 := mt_l1 wB r hr l M (f : Int) S p hS hp X t ht m (by omega) h1 (min p.length (m + 1)) 0 (by omega)
    refine Ev.stepTo2 _ (fun k _ => ?_) h2
    rw [foghornref20_Mend.l0, if_pos (by omega), show at_ t m + sm (fun i => at_ p i * at_ S (m - i)) 0 = at_ t m from add_zero _, set_self]
    rfl
end Go.Proofs.Ytncoakokdajibaa.Sem
