import Derived.Test.YtncoakokdajibaaMendManyReedRun
import Derived.Test.YtncoakokdajibaaMendManyF1
/- The program's codeword: the data and the one row of checks that makes them a codeword. -/
namespace Go.Proofs.Ytncoakokdajibaa.Sem
open Go.RowKit Go.Proofs.Ytncoakokdajibaa.Q Go.Proofs.YtncoakokdajibaaW.PrintWords Go.Proofs.YtncoakokdajibaaW.PrintLast Go.Proofs.YtncoakokdajibaaW.PrintMore Go.Proofs.Ytncoakokdajibaa.Gf
theorem wv_smul (a : F) : ∀ (w : List F) (x : F), wv (smul a w) x = a * wv w x := by
  intro w x
  unfold wv
  rw [← evp_smul]
  unfold smul
  rw [List.map_reverse]
theorem gen_root (r i : Nat) (h : i < r) : evp (gen r) (pow two i) = 0 := by
  unfold gen
  rw [roots_of]
  unfold pows
  exact List.mem_map.2 ⟨i, List.mem_range.2 h, rfl⟩
theorem gen_low (r i : Nat) (h : i < r) : wv ((gen r).take r).reverse (pow two i) = pow (pow two i) r := by
  have hs : gen r = (gen r).take r ++ [1] := by
    have := take_succ_at (gen r) r (by rw [gen_length]; omega)
    rw [List.take_of_length_le (by rw [gen_length]; omega), gen_top] at this
    exact this
  have h0 := gen_root r i h
  have h1 : evp (gen r) (pow two i) = wv (1 :: ((gen r).take r).reverse) (pow two i) := by
    unfold wv
    rw [List.reverse_cons, List.reverse_reverse, ← hs]
  rw [h1, wv_cons, one_mul, List.length_reverse, List.length_take, gen_length, Nat.min_eq_left (by omega)] at h0
  exact (eq_of_add_zero h0).symm
def nextRest (r : Nat) (R : List F) (a : F) : List F := lay (R.drop 1 ++ [0]) (smul (a + at_ R 0) ((gen r).take r).reverse)
theorem nextRest_length {r : Nat} {R : List F} (a : F) (h : R.length = r) (hr : 0 < r) : (nextRest r R a).length = r := by
  unfold nextRest
  rw [lay_length (by rw [smul_length, List.length_reverse, List.length_take, gen_length, List.length_append, List.length_drop]; simp; omega), List.length_append, List.length_drop]
  simp
  omega
theorem Code.next {r : Nat} {D R : List F} (a : F) (hr : 0 < r) (h : R.length = r) (hc : Code r (D ++ R)) : Code r ((D ++ [a]) ++ nextRest r R a) := fun i hi => by
  have h0 := hc i hi
  have hR : R = at_ R 0 :: R.drop 1 := by
    cases R with
    | nil => simp at h; omega
    | cons b R => rfl
  have hx : pow (pow two i) r = pow (pow two i) (r - 1) * pow two i := by
    have : pow (pow two i) (r - 1 + 1) = pow (pow two i) (r - 1) * pow two i := rfl
    rwa [show r - 1 + 1 = r from by omega] at this
  rw [wv_append, h] at h0
  rw [wv_append, nextRest_length a h hr, wv_snoc]
  unfold nextRest
  rw [wv_lay _ _ _ (by rw [smul_length, List.length_reverse, List.length_take, gen_length, List.length_append, List.length_drop]; simp; omega), wv_snoc, wv_smul, gen_low r i hi, zero_add]
  have h1 : wv (R.drop 1) (pow two i) = wv D (pow two i) * pow (pow two i) r + at_ R 0 * pow (pow two i) (r - 1) := by
    have h2 := congrArg (fun l => wv l (pow two i)) hR
    simp only [wv_cons, List.length_drop, h] at h2
    rw [h2] at h0
    rw [← add_assoc] at h0
    exact (eq_of_add_zero h0).symm
  rw [h1]
  generalize pow two i = x at hx ⊢
  generalize wv D x = dx
  generalize at_ R 0 = b
  rw [hx]
  generalize pow x (r - 1) = y
  have e1 : (a + x * dx) * (y * x) = a * (y * x) + dx * (y * x) * x := by rw [add_mul]; ac_rfl
  have e2 : x * (dx * (y * x) + b * y) = dx * (y * x) * x + b * (y * x) := by rw [mul_add]; ac_rfl
  have e3 : (a + b) * (y * x) = a * (y * x) + b * (y * x) := add_mul _ _ _
  rw [e1, e2, e3]
  generalize a * (y * x) = A
  generalize dx * (y * x) * x = C
  generalize b * (y * x) = E
  have : A + C + (C + E + (A + E)) = (A + A) + ((C + C) + (E + E)) := by ac_rfl
  rw [this, add_self, add_self, add_self, add_zero, add_zero]
end Go.Proofs.Ytncoakokdajibaa.Sem
