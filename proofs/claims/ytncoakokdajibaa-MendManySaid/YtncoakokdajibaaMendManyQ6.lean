import Derived.Test.YtncoakokdajibaaMendManyStepW
import Derived.Test.YtncoakokdajibaaMendManyK0
import Derived.Test.YtncoakokdajibaaMendManyF1
import Derived.Test.YtncoakokdajibaaMendManyQ4
import Derived.Test.YtncoakokdajibaaMendManyQ5
-- Printed by myprint.py (ours) over the kit's printer, out of the translation.
namespace Go.Proofs.Ytncoakokdajibaa.Q
open Go.RowKit Go.Proofs.YtncoakokdajibaaW.PrintWords Go.Proofs.YtncoakokdajibaaW.PrintLast Go.Proofs.YtncoakokdajibaaW.PrintMore
attribute [local go_sem] ArrW.ptrOf_slice unary_neg_float unary_neg_complex run_store_float run_store_complex max2_int min2_int max_two min_two max_three min_three max_four min_four   -- for this text's walks alone
set_option linter.unusedVariables false
set_option linter.unusedSimpArgs false
--WALK
def T6m0_ : Array Bool := (List.replicate 1 true ++ List.replicate 15 false).toArray
def T6m1_ : Array Bool := (List.replicate 2 true ++ List.replicate 14 false).toArray
def T6m2_ : Array Bool := (List.replicate 3 true ++ List.replicate 13 false).toArray
def T6m3_ : Array Bool := (List.replicate 4 true ++ List.replicate 12 false).toArray
def T6m4_ : Array Bool := (List.replicate 5 true ++ List.replicate 11 false).toArray
def T6m5_ : Array Bool := (List.replicate 6 true ++ List.replicate 10 false).toArray
def T6m6_ : Array Bool := (List.replicate 7 true ++ List.replicate 9 false).toArray
def T6m7_ : Array Bool := (List.replicate 7 true ++ List.replicate 1 false ++ List.replicate 1 true ++ List.replicate 7 false).toArray
def T6m8_ : Array Bool := (List.replicate 7 true ++ List.replicate 1 false ++ List.replicate 2 true ++ List.replicate 6 false).toArray
def T6m9_ : Array Bool := (List.replicate 7 true ++ List.replicate 1 false ++ List.replicate 3 true ++ List.replicate 5 false).toArray
def T6m10_ : Array Bool := (List.replicate 11 true ++ List.replicate 5 false).toArray
def T6m11_ : Array Bool := (List.replicate 12 true ++ List.replicate 4 false).toArray
def T6m12_ : Array Bool := (List.replicate 13 true ++ List.replicate 3 false).toArray
def T6m13_ : Array Bool := (List.replicate 15 true ++ List.replicate 1 false).toArray
def T6m14_ : Array Bool := (List.replicate 3 true ++ List.replicate 1 false ++ List.replicate 1 true ++ List.replicate 11 false).toArray
def T6m15_ : Array Bool := (List.replicate 3 true ++ List.replicate 1 false ++ List.replicate 2 true ++ List.replicate 10 false).toArray
def T6m16_ : Array Bool := (List.replicate 3 true ++ List.replicate 1 false ++ List.replicate 3 true ++ List.replicate 9 false).toArray
def T6m17_ : Array Bool := (List.replicate 3 true ++ List.replicate 1 false ++ List.replicate 4 true ++ List.replicate 8 false).toArray
def T6m18_ : Array Bool := (List.replicate 3 true ++ List.replicate 1 false ++ List.replicate 4 true ++ List.replicate 1 false ++ List.replicate 1 true ++ List.replicate 6 false).toArray
def T6m19_ : Array Bool := (List.replicate 3 true ++ List.replicate 1 false ++ List.replicate 4 true ++ List.replicate 1 false ++ List.replicate 1 true ++ List.replicate 2 false ++ List.replicate 1 true ++ List.replicate 3 false).toArray
def T6m20_ : Array Bool := (List.replicate 8 true ++ List.replicate 1 false ++ List.replicate 1 true ++ List.replicate 2 false ++ List.replicate 1 true ++ List.replicate 3 false).toArray
def T6m21_ : Array Bool := (List.replicate 10 true ++ List.replicate 2 false ++ List.replicate 1 true ++ List.replicate 3 false).toArray
def T6m22_ : Array Bool := (List.replicate 11 true ++ List.replicate 1 false ++ List.replicate 1 true ++ List.replicate 3 false).toArray
def T6m23_ : Array Bool := (List.replicate 1 true ++ List.replicate 23 false).toArray
def T6m24_ : Array Bool := (List.replicate 2 true ++ List.replicate 22 false).toArray
def T6m25_ : Array Bool := (List.replicate 3 true ++ List.replicate 21 false).toArray
def T6m26_ : Array Bool := (List.replicate 3 true ++ List.replicate 1 false ++ List.replicate 1 true ++ List.replicate 19 false).toArray
def T6m27_ : Array Bool := (List.replicate 3 true ++ List.replicate 1 false ++ List.replicate 2 true ++ List.replicate 18 false).toArray
def T6m28_ : Array Bool := (List.replicate 3 true ++ List.replicate 1 false ++ List.replicate 3 true ++ List.replicate 17 false).toArray
def T6m29_ : Array Bool := (List.replicate 3 true ++ List.replicate 1 false ++ List.replicate 4 true ++ List.replicate 16 false).toArray
def T6m30_ : Array Bool := (List.replicate 3 true ++ List.replicate 1 false ++ List.replicate 4 true ++ List.replicate 1 false ++ List.replicate 1 true ++ List.replicate 14 false).toArray
def T6m31_ : Array Bool := (List.replicate 3 true ++ List.replicate 1 false ++ List.replicate 4 true ++ List.replicate 1 false ++ List.replicate 1 true ++ List.replicate 2 false ++ List.replicate 1 true ++ List.replicate 11 false).toArray
def T6m32_ : Array Bool := (List.replicate 3 true ++ List.replicate 1 false ++ List.replicate 4 true ++ List.replicate 1 false ++ List.replicate 1 true ++ List.replicate 2 false ++ List.replicate 2 true ++ List.replicate 10 false).toArray
def T6m33_ : Array Bool := (List.replicate 3 true ++ List.replicate 1 false ++ List.replicate 4 true ++ List.replicate 1 false ++ List.replicate 1 true ++ List.replicate 2 false ++ List.replicate 3 true ++ List.replicate 9 false).toArray
def T6m34_ : Array Bool := (List.replicate 3 true ++ List.replicate 1 false ++ List.replicate 4 true ++ List.replicate 1 false ++ List.replicate 1 true ++ List.replicate 2 false ++ List.replicate 4 true ++ List.replicate 8 false).toArray
def T6m35_ : Array Bool := (List.replicate 3 true ++ List.replicate 1 false ++ List.replicate 4 true ++ List.replicate 1 false ++ List.replicate 1 true ++ List.replicate 2 false ++ List.replicate 4 true ++ List.replicate 1 false ++ List.replicate 1 true ++ List.replicate 6 false).toArray
def T6m36_ : Array Bool := (List.replicate 8 true ++ List.replicate 1 false ++ List.replicate 1 true ++ List.replicate 2 false ++ List.replicate 4 true ++ List.replicate 1 false ++ List.replicate 1 true ++ List.replicate 6 false).toArray
def T6m37_ : Array Bool := (List.replicate 10 true ++ List.replicate 2 false ++ List.replicate 4 true ++ List.replicate 1 false ++ List.replicate 1 true ++ List.replicate 6 false).toArray
def T6m38_ : Array Bool := (List.replicate 11 true ++ List.replicate 1 false ++ List.replicate 4 true ++ List.replicate 1 false ++ List.replicate 1 true ++ List.replicate 6 false).toArray
def T6m39_ : Array Bool := (List.replicate 16 true ++ List.replicate 1 false ++ List.replicate 1 true ++ List.replicate 6 false).toArray
def T6m40_ : Array Bool := (List.replicate 18 true ++ List.replicate 6 false).toArray
def T6m41_ : Array Bool := (List.replicate 19 true ++ List.replicate 5 false).toArray
def T6m42_ : Array Bool := (List.replicate 20 true ++ List.replicate 4 false).toArray
def T6m43_ : Array Bool := (List.replicate 22 true ++ List.replicate 2 false).toArray
def T6m44_ : Array Bool := (List.replicate 23 true ++ List.replicate 1 false).toArray
def T6m45_ : Array Bool := (List.replicate 1 true ++ List.replicate 14 false).toArray
def T6m46_ : Array Bool := (List.replicate 2 true ++ List.replicate 13 false).toArray
def T6m47_ : Array Bool := (List.replicate 3 true ++ List.replicate 12 false).toArray
def T6m48_ : Array Bool := (List.replicate 4 true ++ List.replicate 11 false).toArray
def T6m49_ : Array Bool := (List.replicate 5 true ++ List.replicate 10 false).toArray
def T6m50_ : Array Bool := (List.replicate 5 true ++ List.replicate 1 false ++ List.replicate 1 true ++ List.replicate 8 false).toArray
def T6m51_ : Array Bool := (List.replicate 5 true ++ List.replicate 1 false ++ List.replicate 2 true ++ List.replicate 7 false).toArray
def T6m52_ : Array Bool := (List.replicate 5 true ++ List.replicate 1 false ++ List.replicate 3 true ++ List.replicate 6 false).toArray
def T6m53_ : Array Bool := (List.replicate 5 true ++ List.replicate 1 false ++ List.replicate 4 true ++ List.replicate 5 false).toArray
def T6m54_ : Array Bool := (List.replicate 10 true ++ List.replicate 5 false).toArray
def T6m55_ : Array Bool := (List.replicate 11 true ++ List.replicate 4 false).toArray
def T6m56_ : Array Bool := (List.replicate 13 true ++ List.replicate 2 false).toArray
def T6m57_ : Array Bool := (List.replicate 14 true ++ List.replicate 1 false).toArray
theorem sv_upd_upd {α : Type} (f : Nat → α) (i : Nat) (x y : α) : sv_upd (sv_upd f i x) i y = sv_upd f i y := by
 funext a
 unfold sv_upd
 by_cases e : a = i
 ·rw [if_pos e, if_pos e]
 ·rw [if_neg e, if_neg e, if_neg e]
theorem sv_upd_self {α : Type} (f : Nat → α) (i : Nat) : sv_upd f i (f i) = f := by
 funext a
 unfold sv_upd
 by_cases e : a = i
 ·rw [if_pos e, e]
 ·rw [if_neg e]
theorem sv_upd_at {α : Type} (f : Nat → α) (i : Nat) (x : α) : sv_upd f i x i = x := by unfold sv_upd; rw [if_pos rfl]
theorem sv_upd_ne {α : Type} (f : Nat → α) (i a : Nat) (x : α) (h : a ≠ i) : sv_upd f i x a = f a := by unfold sv_upd; rw [if_neg h]
theorem sv_swap_at {α : Type} (f : Nat → α) (p c : Nat) : sv_swap f p c c = f p := by unfold sv_swap; rw [if_pos rfl]
def sv_Blk (w : World) (g t n : Nat) (f : Nat → Value) : Prop := ∃ cs : Array Value, w.heap[g]? = some (.cells cs t (0, 0)) ∧ ∀ j, j < n → cs[j]? = some (f j)
section
variable {w w1 : World} {g p t n : Nat} {f f' : Nat → Value}
theorem sv_Blk.lt (h : sv_Blk w g t n f) : g < w.heap.size := let ⟨_, hb, _⟩ := h; blk_lt hb
theorem sv_Blk.cell (h : sv_Blk w g t n f) (j : Nat) (hj : j < n) : w.cell? ⟨g, j, none⟩ = some (f j) := let ⟨_, hb, hc⟩ := h; (blk_cell hb j).trans (hc j hj)
theorem sv_Blk.frozen (h : sv_Blk w g t n f) (j : Nat) : w.frozen? ⟨g, j, none⟩ = false := let ⟨_, hb, _⟩ := h; blk_frozen hb j
theorem sv_Blk.put (h : sv_Blk w g t n f) (j : Nat) (v : Value) : sv_Blk (w.setCell ⟨g, j, none⟩ v) g t n (sv_upd f j v) := by
 obtain ⟨cs, hb, hc⟩ := h
 refine ⟨cs.setIfInBounds j v, blk_set hb j v, fun i hi => ?_⟩
 have hlt : i < cs.size := (Array.getElem?_eq_some_iff.1 (hc i hi)).1
 rw [Array.getElem?_setIfInBounds]
 unfold sv_upd
 by_cases e : j = i
 ·subst e
  rw [if_pos rfl, if_pos hlt, if_pos rfl]
 ·rw [if_neg e, if_neg (fun h => e h.symm)]
  exact hc i hi
theorem sv_Blk.far (h : sv_Blk w g t n f) (hne : g ≠ p) (j : Nat) (v : Value) : sv_Blk (w.setCell ⟨p, j, none⟩ v) g t n f := let ⟨cs, hb, hc⟩ := h; ⟨cs, blk_far hb hne v, hc⟩
theorem sv_Blk.drawn (h : sv_Blk w g t n f) (hd : Drawn0 w w1) : sv_Blk w1 g t n f := by
 obtain ⟨m, rfl⟩ := hd
 exact let ⟨cs, hb, hc⟩ := h; ⟨cs, blk_drewN hb m, hc⟩
theorem sv_Blk.congr (h : sv_Blk w g t n f) (e : ∀ j, j < n → f j = f' j) : sv_Blk w g t n f' := let ⟨cs, hb, hc⟩ := h; ⟨cs, hb, fun j hj => by rw [← e j hj]; exact hc j hj⟩
end
structure sv_Mt (B : Nat) (w0 w : World) (n gm gy cy : Nat) (gs cp : Nat → Nat) (rows : Nat → List Int) (y : List Int) : Prop where
 fm : sv_Blk w gm 29 n (fun i => .slice (some ⟨gs i, 0, none⟩) n (cp i))
 fy : Kd.R (Kd.int .u8) 5 w B (fun k => k = gy) (.slice (some ⟨gy, 0, none⟩) n cy) y
 fr : ∀ i, i < n → sv_Blk w (gs i) 5 n (fun j => .int .u8 (rd (rows i) (j : Int)))
 lr : ∀ i, i < n → (rows i).length = n
 ly : y.length = n
 my : gm ≠ gy
 rm : ∀ i, i < n → gs i ≠ gm ∧ gs i ≠ gy
 rr : ∀ i j, i < n → j < n → i ≠ j → gs i ≠ gs j
 bm : B ≤ gm ∧ B ≤ gy ∧ ∀ i, i < n → B ≤ gs i
 b : Below B w0 w
section
variable {B : Nat} {w0 w w1 : World} {n gm gy cy : Nat} {gs cp : Nat → Nat} {rows : Nat → List Int} {y : List Int}
theorem sv_rd_set (l : List Int) (j : Nat) (v : Int) (hj : j < l.length) (i : Nat) : rd (l.set j v) (i : Int) = if i = j then v else rd l (i : Int) := by
 unfold rd
 rw [Int.toNat_natCast, List.getD_eq_getElem?_getD, List.getD_eq_getElem?_getD, List.getElem?_set]
 by_cases e : j = i
 ·subst e
  rw [if_pos rfl, if_pos hj, if_pos rfl]
  rfl
 ·rw [if_neg e, if_neg (fun h => e h.symm)]
theorem sv_Mt.bB (h : sv_Mt B w0 w n gm gy cy gs cp rows y) : B ≤ w.heap.size := Nat.le_trans h.bm.1 (Nat.le_of_lt h.fm.lt)
theorem sv_Mt.drawn (h : sv_Mt B w0 w n gm gy cy gs cp rows y) (hd : Drawn0 w w1) (hB : B ≤ w.heap.size) : sv_Mt B w0 w1 n gm gy cy gs cp rows y :=
 ⟨h.fm.drawn hd, by obtain ⟨m, rfl⟩ := hd; exact Kd.R_drewN h.fy m, fun i hi => (h.fr i hi).drawn hd, h.lr, h.ly, h.my, h.rm, h.rr, h.bm, by obtain ⟨m, rfl⟩ := hd; exact pw_below_drewN h.b m⟩
theorem sv_Mt.drew (h : sv_Mt B w0 w n gm gy cy gs cp rows y) (hB : B ≤ w.heap.size) : sv_Mt B w0 w.drew n gm gy cy gs cp rows y := h.drawn ⟨1, rfl⟩ hB
theorem sv_Mt.cellY (h : sv_Mt B w0 w n gm gy cy gs cp rows y) (j : Nat) (hj : j < n) : w.cell? ⟨gy, j, none⟩ = some (.int .u8 (rd y (j : Int))) ∧ w.frozen? ⟨gy, j, none⟩ = false := by
 have h1 := Kd.R_celln (0 : Int) h.fy (j : Int) (by omega) (by omega)
 rw [Int.toNat_natCast] at h1
 exact h1
theorem sv_Mt.putY (h : sv_Mt B w0 w n gm gy cy gs cp rows y) (j : Nat) (v : Int) (hj : j < n) : sv_Mt B w0 (w.setCell ⟨gy, j, none⟩ (.int .u8 v)) n gm gy cy gs cp rows (y.set j v) where
 fm := h.fm.far h.my j _
 fy := by
  have h1 := Kd.R_putn h.fy (j : Int) v
  rw [Int.toNat_natCast] at h1
  exact h1
 fr := fun i hi => (h.fr i hi).far (h.rm i hi).2 j _
 lr := h.lr
 ly := by rw [List.length_set]; exact h.ly
 my := h.my
 rm := h.rm
 rr := h.rr
 bm := h.bm
 b := h.b.setCell h.bm.2.1 _
theorem sv_Mt.putR (h : sv_Mt B w0 w n gm gy cy gs cp rows y) (i j : Nat) (v : Int) (hi : i < n) (hj : j < n) : sv_Mt B w0 (w.setCell ⟨gs i, j, none⟩ (.int .u8 v)) n gm gy cy gs cp (sv_upd rows i ((rows i).set j v)) y where
 fm := h.fm.far (fun e => (h.rm i hi).1 e.symm) j _
 fy := Kd.R_far h.fy (p := ⟨gs i, j, none⟩) (fun k hk e => (h.rm i hi).2 (by rw [hk] at e; exact e.symm)) _
 fr := fun a ha => by
  by_cases e : a = i
  ·subst e
   refine ((h.fr a ha).put j _).congr (fun b hb => ?_)
   unfold sv_upd
   rw [if_pos rfl, sv_rd_set (rows a) j v (by rw [h.lr a ha]; exact hj) b]
   by_cases e : b = j
   ·rw [if_pos e, if_pos e]
   ·rw [if_neg e, if_neg e]
  ·refine ((h.fr a ha).far (h.rr a i ha hi e) j _).congr (fun b hb => ?_)
   unfold sv_upd
   rw [if_neg e]
 lr := fun a ha => by
  unfold sv_upd
  by_cases e : a = i
  ·rw [if_pos e, List.length_set]; exact h.lr i hi
  ·rw [if_neg e]; exact h.lr a ha
 ly := h.ly
 my := h.my
 rm := h.rm
 rr := h.rr
 bm := h.bm
 b := h.b.setCell (h.bm.2.2 i hi) _
theorem sv_Mt.swap (h : sv_Mt B w0 w n gm gy cy gs cp rows y) (p c : Nat) (hp : p < n) (hc : c < n) : sv_Mt B w0 ((w.setCell ⟨gm, p, none⟩ (.slice (some ⟨gs c, 0, none⟩) n (cp c))).setCell ⟨gm, c, none⟩ (.slice (some ⟨gs p, 0, none⟩) n (cp p))) n gm gy cy (sv_swap gs p c) (sv_swap cp p c) (sv_swap rows p c) y where
 fm := ((h.fm.put p _).put c _).congr (fun i hi => by
  unfold sv_upd sv_swap
  by_cases e : i = c
  ·rw [if_pos e, if_pos e, if_pos e]
  ·rw [if_neg e, if_neg e, if_neg e]
   by_cases e2 : i = p
   ·rw [if_pos e2, if_pos e2, if_pos e2]
   ·rw [if_neg e2, if_neg e2, if_neg e2])
 fy := Kd.R_far (p := ⟨gm, c, none⟩) (Kd.R_far (p := ⟨gm, p, none⟩) h.fy (fun k hk e => h.my (by rw [hk] at e; exact e.symm)) _) (fun k hk e => h.my (by rw [hk] at e; exact e.symm)) _
 fr := fun i hi => by
  unfold sv_swap
  by_cases e : i = c
  ·rw [if_pos e, if_pos e]; exact ((h.fr p hp).far (h.rm p hp).1 p _).far (h.rm p hp).1 c _
  ·rw [if_neg e, if_neg e]
   by_cases e2 : i = p
   ·rw [if_pos e2, if_pos e2]; exact ((h.fr c hc).far (h.rm c hc).1 p _).far (h.rm c hc).1 c _
   ·rw [if_neg e2, if_neg e2]; exact ((h.fr i hi).far (h.rm i hi).1 p _).far (h.rm i hi).1 c _
 lr := fun i hi => by
  unfold sv_swap
  by_cases e : i = c
  ·rw [if_pos e]; exact h.lr p hp
  ·rw [if_neg e]
   by_cases e2 : i = p
   ·rw [if_pos e2]; exact h.lr c hc
   ·rw [if_neg e2]; exact h.lr i hi
 ly := h.ly
 my := h.my
 rm := fun i hi => by
  unfold sv_swap
  by_cases e : i = c
  ·rw [if_pos e]; exact h.rm p hp
  ·rw [if_neg e]
   by_cases e2 : i = p
   ·rw [if_pos e2]; exact h.rm c hc
   ·rw [if_neg e2]; exact h.rm i hi
 rr := fun i j hi hj hne => by
  have key : ∀ a, a < n → ∃ b, b < n ∧ sv_swap gs p c a = gs b ∧ b = (if a = c then p else if a = p then c else a) := fun a ha => by
   unfold sv_swap
   by_cases e : a = c
   ·exact ⟨p, hp, by rw [if_pos e], by rw [if_pos e]⟩
   ·by_cases e2 : a = p
    ·exact ⟨c, hc, by rw [if_neg e, if_pos e2], by rw [if_neg e, if_pos e2]⟩
    ·exact ⟨a, ha, by rw [if_neg e, if_neg e2], by rw [if_neg e, if_neg e2]⟩
  obtain ⟨a, ha, e1, e2⟩ := key i hi
  obtain ⟨b, hb, e3, e4⟩ := key j hj
  rw [e1, e3]
  refine h.rr a b ha hb (fun e => hne ?_)
  rw [e2, e4] at e
  split at e <;> split at e <;> (try split at e) <;> (try split at e) <;> omega
 bm := ⟨h.bm.1, h.bm.2.1, fun i hi => by
  unfold sv_swap
  by_cases e : i = c
  ·rw [if_pos e]; exact h.bm.2.2 p hp
  ·rw [if_neg e]
   by_cases e2 : i = p
   ·rw [if_pos e2]; exact h.bm.2.2 c hc
   ·rw [if_neg e2]; exact h.bm.2.2 i hi⟩
 b := (h.b.setCell h.bm.1 _).setCell h.bm.1 _
theorem sv_yswap_at (y : List Int) (p c : Nat) (hc : c < y.length) : rd (sv_yswap y p c) (c : Int) = rd y (p : Int) := by
 unfold sv_yswap
 rw [sv_rd_set _ _ _ (by rw [List.length_set]; exact hc), if_pos rfl]
theorem sv_Mt.yswap (h : sv_Mt B w0 w n gm gy cy gs cp rows y) (p c : Nat) (hp : p < n) (hc : c < n) : sv_Mt B w0 ((w.setCell ⟨gy, p, none⟩ (.int .u8 (rd y (c : Int)))).setCell ⟨gy, c, none⟩ (.int .u8 (rd y (p : Int)))) n gm gy cy gs cp rows (sv_yswap y p c) :=
 (h.putY p (rd y (c : Int)) hp).putY c (rd y (p : Int)) hc
end
def sv_post (B : Nat) (w0 : World) (n gy cy : Nat) : Option (List Int) → Ending → World → Prop
 | none, e, w' => e = .returned (.tuple #[.slice none 0 0, .bool false]) ∧ Below B w0 w'
 | some z, e, w' => e = .returned (.tuple #[.slice (some ⟨gy, 0, none⟩) n cy, .bool true]) ∧ Kd.R (Kd.int .u8) 5 w' B (fun k => k = gy) (.slice (some ⟨gy, 0, none⟩) n cy) z ∧ Below B w0 w'
set_option maxHeartbeats 8000000 in
set_option maxRecDepth 100000 in
theorem sv_go (k B : Nat) (w0 w : World) (n gm cm gy cy : Nat) (gs0 cp0 : Nat → Nat) (rows0 : Nat → List Int) (y0 : List Int) (o : Option (List Int)) (h : sv_Mt B w0 w n gm gy cy gs0 cp0 rows0 y0) (hn : 0 < n ∧ n ≤ 1000) (hrun : sv_main k n n 0 rows0 y0 = some o) :
  Calls Try.prog 109 #[.slice (some ⟨gm, 0, none⟩) n cm, .slice (some ⟨gy, 0, none⟩) n cy] w (sv_post B w0 n gy cy o) := by
 have HM := Aside0.mk h
 have HN := Aside0.mk hn
 have HRN := Aside0.mk hrun
 clear h hn hrun
 go_enter Try.func109, Try.ntmps109
 go_wp2
 go_loopg [7] (n + 1) (fun kq v7 w' => ∃ (c : Nat) (gs cp : Nat → Nat) (rows : Nat → List Int) (y : List Int), v7 = .int .i64 (c : Int) ∧ Aside0 (c + kq = n + 1) ∧ Aside0 (c ≤ n) ∧ Aside0 (sv_main k n (n - c) c rows y = some o) ∧ Aside0 (sv_Mt B w0 w' n gm gy cy gs cp rows y))
 case atStart => exact ⟨0, gs0, cp0, rows0, y0, rfl, ⟨by omega⟩, ⟨Nat.zero_le _⟩, HRN, HM⟩
 case round =>
  clear HM HRN
  obtain ⟨c, gs, cp, rows, y, rfl, HI, HCL, HRN, HM⟩ := hrel
  cases gk with
  | zero => have := HI.out; have := HCL.out; omega
  | succ k1 =>
  by_cases hcn : c < n
  ·have hlt : decide (c < n) = true := decide_eq_true hcn
   have hlt' : decide ((c : Int) < (n : Int)) = true := decide_eq_true (by omega)
   have HC := Aside0.mk hcn
   have hrn := HRN.out
   rw [show n - c = (n - (c + 1)) + 1 by omega, sv_main] at hrn
   have HR2 := Aside0.mk hrn
   clear hrn hcn HRN
   go_wp2
   go_loopg [8] (n + 1 - c) (fun kq v8 w' => ∃ (p : Nat), v8 = .int .i64 (p : Int) ∧ Aside0 (p + kq = n + 1) ∧ Aside0 (c ≤ p ∧ p ≤ n) ∧ Aside0 (sv_find n rows c (n - p) p = sv_find n rows c (n - c) c) ∧ Aside0 (sv_Mt B w0 w' n gm gy cy gs cp rows y))
   case atStart => exact ⟨c, rfl, ⟨by have := HI.out; have := HC.out; omega⟩, ⟨Nat.le_refl _, Nat.le_of_lt HC.out⟩, ⟨rfl⟩, HM⟩
   case round =>
    clear HM
    obtain ⟨p, rfl, HJ, HPL, HF, HM⟩ := hrel
    cases gk with
    | zero => have := HJ.out; have := HPL.out; omega
    | succ k2 =>
    have hpl := HPL.out
    have hcn := HC.out
    have hpc0 : (0 ≤ (c : Int)) = True := eq_true (by omega)
    have hpc1 : ((c : Int) < (n : Int)) = True := eq_true (by omega)
    have hpc2 : (c < n) = True := eq_true hcn
    by_cases hpn : p < n
    ·have hl1 : decide (p < n) = true := decide_eq_true hpn
     have hl2 : decide ((p : Int) < (n : Int)) = true := decide_eq_true (by omega)
     have hpp0 : (0 ≤ (p : Int)) = True := eq_true (by omega)
     have hpp1 : ((p : Int) < (n : Int)) = True := eq_true (by omega)
     have hpp2 : (p < n) = True := eq_true hpn
     have hx1 : wr.cell? ⟨gm, p, none⟩ = some (.slice (some ⟨gs p, 0, none⟩) n (cp p)) := HM.out.fm.cell p hpn
     have hx2 : wr.cell? ⟨gs p, c, none⟩ = some (.int .u8 (rd (rows p) (c : Int))) := (HM.out.fr p hpn).cell c hcn
     have HP := Aside0.mk hpn
     by_cases hz : rd (rows p) (c : Int) = 0
     ·have hb0 : (rd (rows p) (c : Int) == 0) = true := beq_iff_eq.2 hz
      have hf := HF.out
      rw [show n - p = (n - (p + 1)) + 1 by omega, sv_find, if_pos hz] at hf
      have HF2 := Aside0.mk hf
      clear hf hz hpl hcn hpn HF
      go_wp2
      go_roundg k2
      case measure => omega
      case rel => exact ⟨p + 1, (by first | rfl | exact congrArg (fun y => Value.int .i64 y) (show wrap64 ((p : Int) + 1) = ((p + 1 : Nat) : Int) from by have := HP.out; have := HN.out; unfold wrap64; omega)), ⟨by have := HJ.out; omega⟩, ⟨by have := HPL.out; have := HP.out; omega⟩, HF2, HM⟩
     ·have hb0 : (rd (rows p) (c : Int) == 0) = false := beq_eq_false_iff_ne.2 hz
      have hf := HF.out
      rw [show n - p = (n - (p + 1)) + 1 by omega, sv_find, if_neg hz] at hf
      rw [← hf] at HR2
      have hrn := HR2.out
      rw [if_neg (show ¬ p = n by omega)] at hrn
      obtain ⟨b, hb, hrn⟩ := Option.bind_eq_some_iff.1 hrn
      obtain ⟨rc, hrc, hrn⟩ := Option.bind_eq_some_iff.1 hrn
      obtain ⟨tt, htt, hrn⟩ := Option.bind_eq_some_iff.1 hrn
      obtain ⟨⟨rows3, y3⟩, hel, hrn⟩ := Option.bind_eq_some_iff.1 hrn
      have HINV := Aside0.mk hb
      have HSC := Aside0.mk hrc
      have HYT := Aside0.mk htt
      have HEL := Aside0.mk hel
      have HMN := Aside0.mk hrn
      have hne1 : ((p : Int) == (n : Int)) = false := beq_eq_false_iff_ne.2 (by omega)
      have hne2 : (p == n) = false := beq_eq_false_iff_ne.2 (by omega)
      have hne3 : decide (p = n) = false := decide_eq_false (by omega)
      clear hf hb hrc htt hel hrn hz HR2 HF HPL HJ hpl hcn hpn
      go_upto_region 10 with (fail)
      clear hx1 hx2 hl1 hl2 hb0 hne1 hne2 hne3
      have HMd := Aside0.mk (HM.out.drew HM.out.bB)
      have hfz0 := HM.out.fm.frozen p
      have hfz1 := HM.out.fm.frozen c
      have hcz := (HM.out.fm.put p (.slice (some ⟨gs c, 0, none⟩) n (cp c))).cell c HC.out
      refine start_ (n := 16) (S := fun w' => w'.cell? ⟨gm, c, none⟩ = some (.slice (some ⟨gs c, 0, none⟩) n (cp c)) ∧ w'.cell? ⟨gm, p, none⟩ = some (.slice (some ⟨gs p, 0, none⟩) n (cp p))) (ds := [13, 15]) #[false, false, false, false, false, false, false, false, false, false, false, false, false, false, false, false] (by kernel_rfl) rfl rfl ⟨(HMd.out.fm.cell c HC.out), (HMd.out.fm.cell p HP.out)⟩ (fun hHeld => ?_)
      refine pz_ 0 40 ?_ T6m0_ rfl rfl (by kernel_rfl) ?_ ?_ ?_ ?_; rotate_left; intro w'; go_simp; with_reducible rfl; rotate_left; simp only [nm_]; rfl
      refine pz_ 1 41 ?_ T6m1_ rfl rfl (by kernel_rfl) ?_ ?_ ?_ ?_; rotate_left; intro w'; go_simp; with_reducible rfl; rotate_left; simp only [nm_]; rfl
      refine pz_ 2 42 ?_ T6m2_ rfl rfl (by kernel_rfl) ?_ ?_ ?_ ?_; rotate_left; intro w'; go_simp; with_reducible rfl; rotate_left; simp only [nm_]; rfl
      refine pz_ 3 43 ?_ T6m3_ rfl rfl (by kernel_rfl) ?_ ?_ ?_ ?_; rotate_left; intro w'; go_simp; with_reducible rfl; rotate_left; simp only [nm_]; rfl
      refine pz_ 4 44 ?_ T6m4_ rfl rfl (by kernel_rfl) ?_ ?_ ?_ ?_; rotate_left; intro w'; go_simp; with_reducible rfl; rotate_left; simp only [nm_]; rfl
      refine pz_ 5 45 ?_ T6m5_ rfl rfl (by kernel_rfl) ?_ ?_ ?_ ?_; rotate_left; intro w'; go_simp; with_reducible rfl; rotate_left; simp only [nm_]; rfl
      refine pz_ 6 46 ?_ T6m6_ rfl rfl (by kernel_rfl) ?_ ?_ ?_ ?_; rotate_left; intro w'; go_simp; with_reducible rfl; rotate_left; simp only [nm_]; rfl
      refine pz_ 8 48 ?_ T6m7_ rfl rfl (by kernel_rfl) ?_ ?_ ?_ ?_; rotate_left; intro w'; go_simp; with_reducible rfl; rotate_left; simp only [nm_]; rfl
      refine pz_ 9 49 ?_ T6m8_ rfl rfl (by kernel_rfl) ?_ ?_ ?_ ?_; rotate_left; intro w'; go_simp; with_reducible rfl; rotate_left; simp only [nm_]; rfl
      refine pz_ 10 50 ?_ T6m9_ rfl rfl (by kernel_rfl) ?_ ?_ ?_ ?_; rotate_left; intro w'; go_simp; with_reducible rfl; rotate_left; simp only [nm_]; rfl
      refine tz_ 7 47 ?_ T6m10_ rfl rfl (by kernel_rfl) ?_ hHeld ?_ ?_ ?_; rotate_left; rintro w' ⟨s0, s1⟩; go_simp; with_reducible rfl; rotate_left; simp only [nm_]; rfl
      refine tz_ 11 51 ?_ T6m11_ rfl rfl (by kernel_rfl) ?_ hHeld ?_ ?_ ?_; rotate_left; rintro w' ⟨s0, s1⟩; go_simp; with_reducible rfl; rotate_left; simp only [nm_]; rfl
      refine pz_ 12 52 ?_ T6m12_ rfl rfl (by kernel_rfl) ?_ ?_ ?_ ?_; rotate_left; intro w'; go_simp; with_reducible rfl; rotate_left; simp only [nm_]; rfl
      refine last_ (i := 13) (N := none) #[true, true, true, true, true, true, true, true, true, true, true, true, true, true, false, false] rfl rfl (by kernel_rfl) (by decide) (fun K hK => ?_)
      refine skip_ (w1 := ?_) (by rfl) rfl ?_ ?_
      rotate_left
      ·go_simp
       rfl
      refine hK.out _ _ ?_
      clear hK K
      refine pz_ 14 53 ?_ T6m13_ rfl rfl (by kernel_rfl) ?_ ?_ ?_ ?_; rotate_left; intro w'; go_simp; with_reducible rfl; rotate_left; simp only [nm_]; rfl
      refine last_ (i := 15) (N := none) #[true, true, true, true, true, true, true, true, true, true, true, true, true, true, true, true] rfl rfl (by kernel_rfl) (by decide) (fun K hK => ?_)
      refine skip_ (w1 := ?_) (by rfl) rfl ?_ ?_
      rotate_left
      ·go_simp
       rfl
      refine hK.out _ _ ?_
      clear hK K
      refine done_ (by kernel_rfl) ?_
      have HM2 := Aside0.mk ((HM.out.swap p c HP.out HC.out).drew (HM.out.swap p c HP.out HC.out).bB)
      clear HMd hfz0 hfz1 hcz HM
      generalize (((wr.setCell ⟨gm, p, none⟩ (.slice (some ⟨gs c, 0, none⟩) n (cp c))).setCell ⟨gm, c, none⟩ (.slice (some ⟨gs p, 0, none⟩) n (cp p))).drew) = w2 at *
      have hrc := HSC.out
      have hinv := HINV.out
      rw [← sv_swap_at rows p c] at hrc hinv
      obtain ⟨gs1, hgs1⟩ : ∃ z, z = sv_swap gs p c := ⟨_, rfl⟩
      obtain ⟨cp1, hcp1⟩ : ∃ z, z = sv_swap cp p c := ⟨_, rfl⟩
      obtain ⟨rows1, hrows1⟩ : ∃ z, z = sv_swap rows p c := ⟨_, rfl⟩
      rw [← hgs1, ← hcp1, ← hrows1] at HM2
      rw [← hrows1] at hrc hinv HEL
      have HSC1 := Aside0.mk hrc
      have HINV1 := Aside0.mk hinv
      clear hrc hinv HSC HINV hgs1 hcp1 hrows1
      go_upto_region 11 with (fail)
      have HMd := Aside0.mk (HM2.out.drew HM2.out.bB)
      have hfz0 := (HM2.out.cellY p HP.out).2
      have hfz1 := (HM2.out.cellY c HC.out).2
      have hcz := ((HM2.out.putY p (rd y (c : Int)) HP.out).cellY c HC.out).1
      refine start_ (n := 16) (S := fun w' => w'.cell? ⟨gy, c, none⟩ = some (.int .u8 (rd y (c : Int))) ∧ w'.cell? ⟨gy, p, none⟩ = some (.int .u8 (rd y (p : Int)))) (ds := [13, 15]) #[false, false, false, false, false, false, false, false, false, false, false, false, false, false, false, false] (by kernel_rfl) rfl rfl ⟨(HMd.out.cellY c HC.out).1, (HMd.out.cellY p HP.out).1⟩ (fun hHeld => ?_)
      refine pz_ 0 54 ?_ T6m0_ rfl rfl (by kernel_rfl) ?_ ?_ ?_ ?_; rotate_left; intro w'; go_simp; with_reducible rfl; rotate_left; simp only [nm_]; rfl
      refine pz_ 1 55 ?_ T6m1_ rfl rfl (by kernel_rfl) ?_ ?_ ?_ ?_; rotate_left; intro w'; go_simp; with_reducible rfl; rotate_left; simp only [nm_]; rfl
      refine pz_ 2 56 ?_ T6m2_ rfl rfl (by kernel_rfl) ?_ ?_ ?_ ?_; rotate_left; intro w'; go_simp; with_reducible rfl; rotate_left; simp only [nm_]; rfl
      refine pz_ 3 57 ?_ T6m3_ rfl rfl (by kernel_rfl) ?_ ?_ ?_ ?_; rotate_left; intro w'; go_simp; with_reducible rfl; rotate_left; simp only [nm_]; rfl
      refine pz_ 4 58 ?_ T6m4_ rfl rfl (by kernel_rfl) ?_ ?_ ?_ ?_; rotate_left; intro w'; go_simp; with_reducible rfl; rotate_left; simp only [nm_]; rfl
      refine pz_ 5 59 ?_ T6m5_ rfl rfl (by kernel_rfl) ?_ ?_ ?_ ?_; rotate_left; intro w'; go_simp; with_reducible rfl; rotate_left; simp only [nm_]; rfl
      refine pz_ 6 60 ?_ T6m6_ rfl rfl (by kernel_rfl) ?_ ?_ ?_ ?_; rotate_left; intro w'; go_simp; with_reducible rfl; rotate_left; simp only [nm_]; rfl
      refine pz_ 8 62 ?_ T6m7_ rfl rfl (by kernel_rfl) ?_ ?_ ?_ ?_; rotate_left; intro w'; go_simp; with_reducible rfl; rotate_left; simp only [nm_]; rfl
      refine pz_ 9 63 ?_ T6m8_ rfl rfl (by kernel_rfl) ?_ ?_ ?_ ?_; rotate_left; intro w'; go_simp; with_reducible rfl; rotate_left; simp only [nm_]; rfl
      refine pz_ 10 64 ?_ T6m9_ rfl rfl (by kernel_rfl) ?_ ?_ ?_ ?_; rotate_left; intro w'; go_simp; with_reducible rfl; rotate_left; simp only [nm_]; rfl
      refine tz_ 7 61 ?_ T6m10_ rfl rfl (by kernel_rfl) ?_ hHeld ?_ ?_ ?_; rotate_left; rintro w' ⟨s0, s1⟩; go_simp; with_reducible rfl; rotate_left; simp only [nm_]; rfl
      refine tz_ 11 65 ?_ T6m11_ rfl rfl (by kernel_rfl) ?_ hHeld ?_ ?_ ?_; rotate_left; rintro w' ⟨s0, s1⟩; go_simp; with_reducible rfl; rotate_left; simp only [nm_]; rfl
      refine pz_ 12 66 ?_ T6m12_ rfl rfl (by kernel_rfl) ?_ ?_ ?_ ?_; rotate_left; intro w'; go_simp; with_reducible rfl; rotate_left; simp only [nm_]; rfl
      refine last_ (i := 13) (N := none) #[true, true, true, true, true, true, true, true, true, true, true, true, true, true, false, false] rfl rfl (by kernel_rfl) (by decide) (fun K hK => ?_)
      refine skip_ (w1 := ?_) (by rfl) rfl ?_ ?_
      rotate_left
      ·go_simp
       rfl
      refine hK.out _ _ ?_
      clear hK K
      refine pz_ 14 67 ?_ T6m13_ rfl rfl (by kernel_rfl) ?_ ?_ ?_ ?_; rotate_left; intro w'; go_simp; with_reducible rfl; rotate_left; simp only [nm_]; rfl
      refine last_ (i := 15) (N := none) #[true, true, true, true, true, true, true, true, true, true, true, true, true, true, true, true] rfl rfl (by kernel_rfl) (by decide) (fun K hK => ?_)
      refine skip_ (w1 := ?_) (by rfl) rfl ?_ ?_
      rotate_left
      ·go_simp
       rfl
      refine hK.out _ _ ?_
      clear hK K
      refine done_ (by kernel_rfl) ?_
      have HM3 := Aside0.mk ((HM2.out.yswap p c HP.out HC.out).drew (HM2.out.yswap p c HP.out HC.out).bB)
      clear HMd hfz0 hfz1 hcz
      generalize (((w2.setCell ⟨gy, p, none⟩ (.int .u8 (rd y (c : Int)))).setCell ⟨gy, c, none⟩ (.int .u8 (rd y (p : Int)))).drew) = w3 at *
      have hyt := HYT.out
      rw [← sv_yswap_at y p c (by rw [HM2.out.ly]; exact HC.out)] at hyt
      obtain ⟨y1, hy1⟩ : ∃ z, z = sv_yswap y p c := ⟨_, rfl⟩
      rw [← hy1] at hyt HM3 HEL
      have HYT1 := Aside0.mk hyt
      clear hyt HYT hy1 HM2
      have hx1 : w3.cell? ⟨gm, c, none⟩ = some (.slice (some ⟨gs1 c, 0, none⟩) n (cp1 c)) := HM3.out.fm.cell c HC.out
      have hx2 : w3.cell? ⟨gs1 c, c, none⟩ = some (.int .u8 (rd (rows1 c) (c : Int))) := (HM3.out.fr c HC.out).cell c HC.out
      go_upto_region 13 with (first
       | (go_at_call 110; (with_reducible refine (foghornref20_inverse.calls k (rd (rows1 c) (c : Int)) b _ HINV1.out).mono ?_); rintro e w4 ⟨rfl, hdr⟩; have HM4 := Aside0.mk (HM3.out.drawn hdr HM3.out.bB); clear hdr))
      clear hx1 hx2 HM3 HINV1
      obtain ⟨RS, hRS⟩ : ∃ z, z = sv_upd rows1 c rc := ⟨_, rfl⟩
      rw [← hRS] at HEL
      have HRS := Aside0.mk hRS.symm
      clear hRS
      go_wp2
      go_loopg [10] (n + 1) (fun kq v10 w' => ∃ (j : Nat) (rowsS : Nat → List Int), v10 = .int .i64 (j : Int) ∧ Aside0 (j + kq = n + 1) ∧ Aside0 (j ≤ n) ∧ Aside0 (sv_scale k b (n - j) j (rowsS c) = some rc) ∧ Aside0 (sv_upd rowsS c rc = RS) ∧ Aside0 (sv_Mt B w0 w' n gm gy cy gs1 cp1 rowsS y1))
      case atStart => exact ⟨0, rows1, rfl, ⟨by omega⟩, ⟨Nat.zero_le _⟩, HSC1, HRS, HM4⟩
      case round =>
       clear HSC1 HRS HM4
       obtain ⟨j, rowsS, rfl, HJ, HJL, HSC, HRS, HM⟩ := hrel
       cases gk with
       | zero => have := HJ.out; have := HJL.out; omega
       | succ k3 =>
       have hpc0 : (0 ≤ (c : Int)) = True := eq_true (by omega)
       have hpc1 : ((c : Int) < (n : Int)) = True := eq_true (by have := HC.out; omega)
       have hpc2 : (c < n) = True := eq_true HC.out
       by_cases hjn : j < n
       ·have hl1 : decide (j < n) = true := decide_eq_true hjn
        have hl2 : decide ((j : Int) < (n : Int)) = true := decide_eq_true (by omega)
        have hpj0 : (0 ≤ (j : Int)) = True := eq_true (by omega)
        have hpj1 : ((j : Int) < (n : Int)) = True := eq_true (by omega)
        have hpj2 : (j < n) = True := eq_true hjn
        have HJN := Aside0.mk hjn
        have hsc := HSC.out
        rw [show n - j = (n - (j + 1)) + 1 by omega, sv_scale] at hsc
        obtain ⟨t, ht, hsc⟩ := Option.bind_eq_some_iff.1 hsc
        have HT := Aside0.mk ht
        have HSC2 := Aside0.mk hsc
        clear hsc ht hjn HSC
        go_upto_region 16 with (fail)
        have HMd := Aside0.mk (HM.out.drew HM.out.bB)
        refine start_ (n := 16) (S := fun w' => w'.cell? ⟨gm, c, none⟩ = some (.slice (some ⟨gs1 c, 0, none⟩) n (cp1 c)) ∧ w'.cell? ⟨gs1 c, j, none⟩ = some (.int .u8 (rd (rowsS c) (j : Int)))) (ds := [15]) #[false, false, false, false, false, false, false, false, false, false, false, false, false, false, false, false] (by kernel_rfl) rfl rfl ⟨(HMd.out.fm.cell c HC.out), ((HMd.out.fr c HC.out).cell j HJN.out)⟩ (fun hHeld => ?_)
        refine pz_ 0 81 ?_ T6m0_ rfl rfl (by kernel_rfl) ?_ ?_ ?_ ?_; rotate_left; intro w'; go_simp; with_reducible rfl; rotate_left; simp only [nm_]; rfl
        refine pz_ 1 82 ?_ T6m1_ rfl rfl (by kernel_rfl) ?_ ?_ ?_ ?_; rotate_left; intro w'; go_simp; with_reducible rfl; rotate_left; simp only [nm_]; rfl
        refine pz_ 2 83 ?_ T6m2_ rfl rfl (by kernel_rfl) ?_ ?_ ?_ ?_; rotate_left; intro w'; go_simp; with_reducible rfl; rotate_left; simp only [nm_]; rfl
        refine pz_ 4 85 ?_ T6m14_ rfl rfl (by kernel_rfl) ?_ ?_ ?_ ?_; rotate_left; intro w'; go_simp; with_reducible rfl; rotate_left; simp only [nm_]; rfl
        refine pz_ 5 86 ?_ T6m15_ rfl rfl (by kernel_rfl) ?_ ?_ ?_ ?_; rotate_left; intro w'; go_simp; with_reducible rfl; rotate_left; simp only [nm_]; rfl
        refine pz_ 6 87 ?_ T6m16_ rfl rfl (by kernel_rfl) ?_ ?_ ?_ ?_; rotate_left; intro w'; go_simp; with_reducible rfl; rotate_left; simp only [nm_]; rfl
        refine pz_ 7 88 ?_ T6m17_ rfl rfl (by kernel_rfl) ?_ ?_ ?_ ?_; rotate_left; intro w'; go_simp; with_reducible rfl; rotate_left; simp only [nm_]; rfl
        refine pz_ 9 90 ?_ T6m18_ rfl rfl (by kernel_rfl) ?_ ?_ ?_ ?_; rotate_left; intro w'; go_simp; with_reducible rfl; rotate_left; simp only [nm_]; rfl
        refine pz_ 12 93 ?_ T6m19_ rfl rfl (by kernel_rfl) ?_ ?_ ?_ ?_; rotate_left; intro w'; go_simp; with_reducible rfl; rotate_left; simp only [nm_]; rfl
        refine tz_ 3 84 ?_ T6m20_ rfl rfl (by kernel_rfl) ?_ hHeld ?_ ?_ ?_; rotate_left; rintro w' ⟨s0, s1⟩; go_simp; with_reducible rfl; rotate_left; simp only [nm_]; rfl
        refine tz_ 8 89 ?_ T6m21_ rfl rfl (by kernel_rfl) ?_ hHeld ?_ ?_ ?_; rotate_left; rintro w' ⟨s0, s1⟩; go_simp; with_reducible rfl; rotate_left; simp only [nm_]; rfl
        refine pz_ 10 91 ?_ T6m22_ rfl rfl (by kernel_rfl) ?_ ?_ ?_ ?_; rotate_left; intro w'; go_simp; with_reducible rfl; rotate_left; simp only [nm_]; rfl
        refine tz_ 11 92 ?_ T6m12_ rfl rfl (by kernel_rfl) ?_ hHeld ?_ ?_ ?_; rotate_left; rintro w' ⟨s0, s1⟩; go_simp; with_reducible rfl; rotate_left; simp only [nm_]; rfl
        refine one_ (i := 13) (N := some 94) #[true, true, true, true, true, true, true, true, true, true, true, true, true, true, false, false] rfl rfl (by kernel_rfl) (by decide) (fun K hK => ?_)
        refine goes_ Try.func92 (by kernel_rfl) rfl #[.int .u8 (rd (rowsS c) (j : Int)), .int .u8 b] (by rfl) rfl rfl (by simp only [List.map_toArray, List.map_cons, List.map_nil]; rfl) ?_
        with_reducible refine (foghornref18_Times.calls k (rd (rowsS c) (j : Int)) b t _ HT.out).mono ?_
        rintro e wd ⟨rfl, hdr⟩
        refine ⟨_, rfl, ?_⟩
        have HMe := Aside0.mk (HMd.out.drawn hdr HMd.out.bB)
        have hfz := (HMe.out.fr c HC.out).frozen j
        clear hdr
        refine hK.out _ _ ⟨(HMe.out.fm.cell c HC.out), ((HMe.out.fr c HC.out).cell j HJN.out)⟩ (fun hHeld => ?_)
        clear hK K
        refine norm_ (a' := ?_) ?_ ?_
        rotate_left
        ·show Act.put _ (some 94) _ = _
         simp only [nm_]
         rfl
        refine pz_ 14 95 ?_ T6m13_ rfl rfl (by kernel_rfl) ?_ ?_ ?_ ?_; rotate_left; intro w'; go_simp; with_reducible rfl; rotate_left; simp only [nm_]; rfl
        refine last_ (i := 15) (N := none) #[true, true, true, true, true, true, true, true, true, true, true, true, true, true, true, true] rfl rfl (by kernel_rfl) (by decide) (fun K hK => ?_)
        refine skip_ (w1 := ?_) (by rfl) rfl ?_ ?_
        rotate_left
        ·go_simp
         rfl
        refine hK.out _ _ ?_
        clear hK K
        refine done_ (by kernel_rfl) ?_
        have HM5 := Aside0.mk (HMe.out.putR c j t HC.out HJN.out)
        clear HMd HMe hfz HM hl1 hl2 hpj0 hpj1 hpj2
        generalize (wd.setCell ⟨gs1 c, j, none⟩ (.int .u8 t)) = w5 at *
        go_wp2
        go_roundg k3
        case measure => omega
        case rel => exact ⟨j + 1, sv_upd rowsS c ((rowsS c).set j t), (by first | rfl | exact congrArg (fun y => Value.int .i64 y) (show wrap64 ((j : Int) + 1) = ((j + 1 : Nat) : Int) from by have := HJN.out; have := HN.out; unfold wrap64; omega)), ⟨by have := HJ.out; omega⟩, ⟨HJN.out⟩, ⟨by rw [sv_upd_at]; exact HSC2.out⟩, ⟨by rw [sv_upd_upd]; exact HRS.out⟩, HM5⟩
       ·have hl1 : decide (j < n) = false := decide_eq_false hjn
        have hl2 : decide ((j : Int) < (n : Int)) = false := decide_eq_false (by omega)
        have hsc := HSC.out
        rw [show n - j = 0 by omega, sv_scale] at hsc
        have hrs := HRS.out
        rw [← Option.some.inj hsc, sv_upd_self] at hrs
        subst hrs
        clear hsc hjn HSC HRS HJ HJL
        have hx1 : wr.cell? ⟨gy, c, none⟩ = some (.int .u8 (rd y1 (c : Int))) := (HM.out.cellY c HC.out).1
        go_upto_region 18 with (first
         | (go_at_call 92; (with_reducible refine (foghornref18_Times.calls k (rd y1 (c : Int)) b tt _ HYT1.out).mono ?_); rintro e w4 ⟨rfl, hdr⟩; have HM4 := Aside0.mk (HM.out.drawn hdr HM.out.bB); have hcz := (HM4.out.cellY c HC.out).1; have hfz := (HM4.out.cellY c HC.out).2; clear hdr hx1))
        have HM5 := Aside0.mk (HM4.out.putY c tt HC.out)
        clear HM4 HM hcz hfz HYT1
        generalize (w4.setCell ⟨gy, c, none⟩ (.int .u8 tt)) = w5 at *
        obtain ⟨y4, hy4⟩ : ∃ z, z = y1.set c tt := ⟨_, rfl⟩
        rw [← hy4] at HM5 HEL
        clear hy4
        go_wp2
        go_loopg [11] (n + 1) (fun kq v11 w' => ∃ (i : Nat) (rowsE : Nat → List Int) (yE : List Int), v11 = .int .i64 (i : Int) ∧ Aside0 (i + kq = n + 1) ∧ Aside0 (i ≤ n) ∧ Aside0 (sv_elim k n c (n - i) i rowsE yE = some (rows3, y3)) ∧ Aside0 (sv_Mt B w0 w' n gm gy cy gs1 cp1 rowsE yE))
        case atStart => exact ⟨0, rowsS, y4, rfl, ⟨by omega⟩, ⟨Nat.zero_le _⟩, HEL, HM5⟩
        case round =>
         clear HEL HM5
         obtain ⟨i, rowsE, yE, rfl, HJ, HIL, HEL, HM⟩ := hrel
         cases gk with
         | zero => have := HJ.out; have := HIL.out; omega
         | succ k4 =>
         by_cases hin : i < n
         ·have hl1 : decide (i < n) = true := decide_eq_true hin
          have hl2 : decide ((i : Int) < (n : Int)) = true := decide_eq_true (by omega)
          have hpi0 : (0 ≤ (i : Int)) = True := eq_true (by omega)
          have hpi1 : ((i : Int) < (n : Int)) = True := eq_true (by omega)
          have hpi2 : (i < n) = True := eq_true hin
          have HIN := Aside0.mk hin
          have hx1 : wr.cell? ⟨gm, i, none⟩ = some (.slice (some ⟨gs1 i, 0, none⟩) n (cp1 i)) := HM.out.fm.cell i hin
          obtain ⟨f, hf⟩ : ∃ f, f = rd (rowsE i) (c : Int) := ⟨_, rfl⟩
          have hx2 : wr.cell? ⟨gs1 i, c, none⟩ = some (.int .u8 f) := by rw [hf]; exact (HM.out.fr i hin).cell c HC.out
          have hel := HEL.out
          rw [show n - i = (n - (i + 1)) + 1 by omega, sv_elim, ← hf] at hel
          have hwi : wrap64 ((i : Int) + 1) = ((i + 1 : Nat) : Int) := by have := HN.out; unfold wrap64; omega
          have HWI := Aside0.mk hwi
          clear hwi hin HEL
          by_cases hic : i = c
          ·have hb1 : ((i : Int) == (c : Int)) = true := beq_iff_eq.2 (by omega)
           have hb2 : (i == c) = true := beq_iff_eq.2 hic
           have hb3 : decide (i = c) = true := decide_eq_true hic
           rw [if_pos (Or.inl hic)] at hel
           have HEL2 := Aside0.mk hel
           clear hel hf
           subst hic
           go_wp2
           go_roundg k4
           case measure => omega
           case rel => exact ⟨i + 1, rowsE, yE, (by first | rfl | exact congrArg (fun y => Value.int .i64 y) HWI.out), ⟨by have := HJ.out; omega⟩, ⟨HIN.out⟩, HEL2, HM⟩
          ·have hb1 : ((i : Int) == (c : Int)) = false := beq_eq_false_iff_ne.2 (by omega)
           have hb2 : (i == c) = false := beq_eq_false_iff_ne.2 hic
           have hb3 : decide (i = c) = false := decide_eq_false hic
           have HNE := Aside0.mk hic
           by_cases hf0 : f = 0
           ·have hb4 : (f == 0) = true := beq_iff_eq.2 hf0
            rw [if_pos (Or.inr hf0)] at hel
            have HEL2 := Aside0.mk hel
            clear hel hf hf0 hic
            go_wp2
            go_roundg k4
            case measure => omega
            case rel => exact ⟨i + 1, rowsE, yE, (by first | rfl | exact congrArg (fun y => Value.int .i64 y) HWI.out), ⟨by have := HJ.out; omega⟩, ⟨HIN.out⟩, HEL2, HM⟩
           ·have hb4 : (f == 0) = false := beq_eq_false_iff_ne.2 hf0
            rw [if_neg (fun h => h.elim hic hf0)] at hel
            obtain ⟨r, hr, hel⟩ := Option.bind_eq_some_iff.1 hel
            obtain ⟨ty, hty, hel⟩ := Option.bind_eq_some_iff.1 hel
            have HEL2 := Aside0.mk hel
            have HTY := Aside0.mk hty
            have HAD := Aside0.mk hr
            clear hel hr hty hf hf0 hic
            obtain ⟨RC, hRC⟩ : ∃ z, z = rowsE c := ⟨_, rfl⟩
            obtain ⟨RI, hRI⟩ : ∃ z, z = sv_upd rowsE i r := ⟨_, rfl⟩
            rw [← hRC] at HAD
            rw [← hRI] at HEL2
            have HRC := Aside0.mk hRC.symm
            have HRI := Aside0.mk hRI.symm
            clear hRC hRI
            go_wp2
            go_loopg [13] (n + 1) (fun kq v13 w' => ∃ (j : Nat) (rowsF : Nat → List Int), v13 = .int .i64 (j : Int) ∧ Aside0 (j + kq = n + 1) ∧ Aside0 (j ≤ n) ∧ Aside0 (sv_add k f RC (n - j) j (rowsF i) = some r) ∧ Aside0 (rowsF c = RC) ∧ Aside0 (sv_upd rowsF i r = RI) ∧ Aside0 (sv_Mt B w0 w' n gm gy cy gs1 cp1 rowsF yE))
            case atStart => exact ⟨0, rowsE, rfl, ⟨by omega⟩, ⟨Nat.zero_le _⟩, HAD, HRC, HRI, HM⟩
            case round =>
             clear HAD HRC HRI HM hx1 hx2
             obtain ⟨j, rowsF, rfl, HK, HJL, HAD, HRC, HRI, HM⟩ := hrel
             cases gk with
             | zero => have := HK.out; have := HJL.out; omega
             | succ k5 =>
             have hpc0 : (0 ≤ (c : Int)) = True := eq_true (by omega)
             have hpc1 : ((c : Int) < (n : Int)) = True := eq_true (by have := HC.out; omega)
             have hpc2 : (c < n) = True := eq_true HC.out
             by_cases hjn : j < n
             ·have hl3 : decide (j < n) = true := decide_eq_true hjn
              have hl4 : decide ((j : Int) < (n : Int)) = true := decide_eq_true (by omega)
              have hpj0 : (0 ≤ (j : Int)) = True := eq_true (by omega)
              have hpj1 : ((j : Int) < (n : Int)) = True := eq_true (by omega)
              have hpj2 : (j < n) = True := eq_true hjn
              have HJN := Aside0.mk hjn
              have had := HAD.out
              rw [show n - j = (n - (j + 1)) + 1 by omega, sv_add, ← HRC.out] at had
              obtain ⟨t, ht, had⟩ := Option.bind_eq_some_iff.1 had
              have HT := Aside0.mk ht
              rw [HRC.out] at had
              have HAD2 := Aside0.mk had
              clear had ht hjn HAD
              go_upto_region 26 with (fail)
              have HMd := Aside0.mk (HM.out.drew HM.out.bB)
              refine start_ (n := 24) (S := fun w' => w'.cell? ⟨gm, i, none⟩ = some (.slice (some ⟨gs1 i, 0, none⟩) n (cp1 i)) ∧ w'.cell? ⟨gm, c, none⟩ = some (.slice (some ⟨gs1 c, 0, none⟩) n (cp1 c)) ∧ w'.cell? ⟨gs1 i, j, none⟩ = some (.int .u8 (rd (rowsF i) (j : Int))) ∧ w'.cell? ⟨gs1 c, j, none⟩ = some (.int .u8 (rd (rowsF c) (j : Int)))) (ds := [23]) #[false, false, false, false, false, false, false, false, false, false, false, false, false, false, false, false, false, false, false, false, false, false, false, false] (by kernel_rfl) rfl rfl ⟨(HMd.out.fm.cell i HIN.out), (HMd.out.fm.cell c HC.out), ((HMd.out.fr i HIN.out).cell j HJN.out), ((HMd.out.fr c HC.out).cell j HJN.out)⟩ (fun hHeld => ?_)
              refine pz_ 0 129 ?_ T6m23_ rfl rfl (by kernel_rfl) ?_ ?_ ?_ ?_; rotate_left; intro w'; go_simp; with_reducible rfl; rotate_left; simp only [nm_]; rfl
              refine pz_ 1 130 ?_ T6m24_ rfl rfl (by kernel_rfl) ?_ ?_ ?_ ?_; rotate_left; intro w'; go_simp; with_reducible rfl; rotate_left; simp only [nm_]; rfl
              refine pz_ 2 131 ?_ T6m25_ rfl rfl (by kernel_rfl) ?_ ?_ ?_ ?_; rotate_left; intro w'; go_simp; with_reducible rfl; rotate_left; simp only [nm_]; rfl
              refine pz_ 4 133 ?_ T6m26_ rfl rfl (by kernel_rfl) ?_ ?_ ?_ ?_; rotate_left; intro w'; go_simp; with_reducible rfl; rotate_left; simp only [nm_]; rfl
              refine pz_ 5 134 ?_ T6m27_ rfl rfl (by kernel_rfl) ?_ ?_ ?_ ?_; rotate_left; intro w'; go_simp; with_reducible rfl; rotate_left; simp only [nm_]; rfl
              refine pz_ 6 135 ?_ T6m28_ rfl rfl (by kernel_rfl) ?_ ?_ ?_ ?_; rotate_left; intro w'; go_simp; with_reducible rfl; rotate_left; simp only [nm_]; rfl
              refine pz_ 7 136 ?_ T6m29_ rfl rfl (by kernel_rfl) ?_ ?_ ?_ ?_; rotate_left; intro w'; go_simp; with_reducible rfl; rotate_left; simp only [nm_]; rfl
              refine pz_ 9 138 ?_ T6m30_ rfl rfl (by kernel_rfl) ?_ ?_ ?_ ?_; rotate_left; intro w'; go_simp; with_reducible rfl; rotate_left; simp only [nm_]; rfl
              refine pz_ 12 141 ?_ T6m31_ rfl rfl (by kernel_rfl) ?_ ?_ ?_ ?_; rotate_left; intro w'; go_simp; with_reducible rfl; rotate_left; simp only [nm_]; rfl
              refine pz_ 13 142 ?_ T6m32_ rfl rfl (by kernel_rfl) ?_ ?_ ?_ ?_; rotate_left; intro w'; go_simp; with_reducible rfl; rotate_left; simp only [nm_]; rfl
              refine pz_ 14 143 ?_ T6m33_ rfl rfl (by kernel_rfl) ?_ ?_ ?_ ?_; rotate_left; intro w'; go_simp; with_reducible rfl; rotate_left; simp only [nm_]; rfl
              refine pz_ 15 144 ?_ T6m34_ rfl rfl (by kernel_rfl) ?_ ?_ ?_ ?_; rotate_left; intro w'; go_simp; with_reducible rfl; rotate_left; simp only [nm_]; rfl
              refine pz_ 17 146 ?_ T6m35_ rfl rfl (by kernel_rfl) ?_ ?_ ?_ ?_; rotate_left; intro w'; go_simp; with_reducible rfl; rotate_left; simp only [nm_]; rfl
              refine tz_ 3 132 ?_ T6m36_ rfl rfl (by kernel_rfl) ?_ hHeld ?_ ?_ ?_; rotate_left; rintro w' ⟨s0, s1, s2, s3⟩; go_simp; with_reducible rfl; rotate_left; simp only [nm_]; rfl
              refine tz_ 8 137 ?_ T6m37_ rfl rfl (by kernel_rfl) ?_ hHeld ?_ ?_ ?_; rotate_left; rintro w' ⟨s0, s1, s2, s3⟩; go_simp; with_reducible rfl; rotate_left; simp only [nm_]; rfl
              refine pz_ 10 139 ?_ T6m38_ rfl rfl (by kernel_rfl) ?_ ?_ ?_ ?_; rotate_left; intro w'; go_simp; with_reducible rfl; rotate_left; simp only [nm_]; rfl
              refine tz_ 11 140 ?_ T6m39_ rfl rfl (by kernel_rfl) ?_ hHeld ?_ ?_ ?_; rotate_left; rintro w' ⟨s0, s1, s2, s3⟩; go_simp; with_reducible rfl; rotate_left; simp only [nm_]; rfl
              refine tz_ 16 145 ?_ T6m40_ rfl rfl (by kernel_rfl) ?_ hHeld ?_ ?_ ?_; rotate_left; rintro w' ⟨s0, s1, s2, s3⟩; go_simp; with_reducible rfl; rotate_left; simp only [nm_]; rfl
              refine pz_ 18 147 ?_ T6m41_ rfl rfl (by kernel_rfl) ?_ ?_ ?_ ?_; rotate_left; intro w'; go_simp; with_reducible rfl; rotate_left; simp only [nm_]; rfl
              refine tz_ 19 148 ?_ T6m42_ rfl rfl (by kernel_rfl) ?_ hHeld ?_ ?_ ?_; rotate_left; rintro w' ⟨s0, s1, s2, s3⟩; go_simp; with_reducible rfl; rotate_left; simp only [nm_]; rfl
              refine one_ (i := 20) (N := some 149) #[true, true, true, true, true, true, true, true, true, true, true, true, true, true, true, true, true, true, true, true, true, false, false, false] rfl rfl (by kernel_rfl) (by decide) (fun K hK => ?_)
              refine goes_ Try.func92 (by kernel_rfl) rfl #[.int .u8 f, .int .u8 (rd (rowsF c) (j : Int))] (by rfl) rfl rfl (by simp only [List.map_toArray, List.map_cons, List.map_nil]; rfl) ?_
              with_reducible refine (foghornref18_Times.calls k f (rd (rowsF c) (j : Int)) t _ HT.out).mono ?_
              rintro e wd ⟨rfl, hdr⟩
              refine ⟨_, rfl, ?_⟩
              have HMe := Aside0.mk (HMd.out.drawn hdr HMd.out.bB)
              have hfz := (HMe.out.fr i HIN.out).frozen j
              clear hdr
              refine hK.out _ _ ⟨(HMe.out.fm.cell i HIN.out), (HMe.out.fm.cell c HC.out), ((HMe.out.fr i HIN.out).cell j HJN.out), ((HMe.out.fr c HC.out).cell j HJN.out)⟩ (fun hHeld => ?_)
              clear hK K
              refine norm_ (a' := ?_) ?_ ?_
              rotate_left
              ·show Act.put _ (some 149) _ = _
               simp only [nm_]
               rfl
              refine pz_ 21 150 ?_ T6m43_ rfl rfl (by kernel_rfl) ?_ ?_ ?_ ?_; rotate_left; intro w'; go_simp; with_reducible rfl; rotate_left; simp only [nm_]; rfl
              refine pz_ 22 151 ?_ T6m44_ rfl rfl (by kernel_rfl) ?_ ?_ ?_ ?_; rotate_left; intro w'; go_simp; with_reducible rfl; rotate_left; simp only [nm_]; rfl
              refine last_ (i := 23) (N := none) #[true, true, true, true, true, true, true, true, true, true, true, true, true, true, true, true, true, true, true, true, true, true, true, true] rfl rfl (by kernel_rfl) (by decide) (fun K hK => ?_)
              refine skip_ (w1 := ?_) (by rfl) rfl ?_ ?_
              rotate_left
              ·go_simp
               rfl
              refine hK.out _ _ ?_
              clear hK K
              refine done_ (by kernel_rfl) ?_
              have HM6 := Aside0.mk (HMe.out.putR i j (Go.bits .xor .u8 (rd (rowsF i) (j : Int)) t) HIN.out HJN.out)
              clear HMd HMe hfz HM hl3 hl4 hpj0 hpj1 hpj2
              generalize (wd.setCell ⟨gs1 i, j, none⟩ (.int .u8 (Go.bits .xor .u8 (rd (rowsF i) (j : Int)) t))) = w6 at *
              go_wp2
              go_roundg k5
              case measure => omega
              case rel => exact ⟨j + 1, sv_upd rowsF i ((rowsF i).set j (Go.bits .xor .u8 (rd (rowsF i) (j : Int)) t)), (by first | rfl | exact congrArg (fun y => Value.int .i64 y) (show wrap64 ((j : Int) + 1) = ((j + 1 : Nat) : Int) from by have := HJN.out; have := HN.out; unfold wrap64; omega)), ⟨by have := HK.out; omega⟩, ⟨HJN.out⟩, ⟨by rw [sv_upd_at]; exact HAD2.out⟩, ⟨by rw [sv_upd_ne _ _ _ _ (fun e => HNE.out e.symm)]; exact HRC.out⟩, ⟨by rw [sv_upd_upd]; exact HRI.out⟩, HM6⟩
             ·have hl3 : decide (j < n) = false := decide_eq_false hjn
              have hl4 : decide ((j : Int) < (n : Int)) = false := decide_eq_false (by omega)
              have had := HAD.out
              rw [show n - j = 0 by omega, sv_add] at had
              have hri := HRI.out
              rw [← Option.some.inj had, sv_upd_self] at hri
              subst hri
              clear had hjn HAD HRI HRC HK HJL
              go_upto_region 27 with (fail)
              have HMd := Aside0.mk (HM.out.drew HM.out.bB)
              have HT := HTY
              refine start_ (n := 15) (S := fun w' => w'.cell? ⟨gy, i, none⟩ = some (.int .u8 (rd yE (i : Int))) ∧ w'.cell? ⟨gy, c, none⟩ = some (.int .u8 (rd yE (c : Int)))) (ds := [14]) #[false, false, false, false, false, false, false, false, false, false, false, false, false, false, false] (by kernel_rfl) rfl rfl ⟨(HMd.out.cellY i HIN.out).1, (HMd.out.cellY c HC.out).1⟩ (fun hHeld => ?_)
              refine pz_ 0 152 ?_ T6m45_ rfl rfl (by kernel_rfl) ?_ ?_ ?_ ?_; rotate_left; intro w'; go_simp; with_reducible rfl; rotate_left; simp only [nm_]; rfl
              refine pz_ 1 153 ?_ T6m46_ rfl rfl (by kernel_rfl) ?_ ?_ ?_ ?_; rotate_left; intro w'; go_simp; with_reducible rfl; rotate_left; simp only [nm_]; rfl
              refine pz_ 2 154 ?_ T6m47_ rfl rfl (by kernel_rfl) ?_ ?_ ?_ ?_; rotate_left; intro w'; go_simp; with_reducible rfl; rotate_left; simp only [nm_]; rfl
              refine pz_ 3 155 ?_ T6m48_ rfl rfl (by kernel_rfl) ?_ ?_ ?_ ?_; rotate_left; intro w'; go_simp; with_reducible rfl; rotate_left; simp only [nm_]; rfl
              refine pz_ 4 156 ?_ T6m49_ rfl rfl (by kernel_rfl) ?_ ?_ ?_ ?_; rotate_left; intro w'; go_simp; with_reducible rfl; rotate_left; simp only [nm_]; rfl
              refine pz_ 6 158 ?_ T6m50_ rfl rfl (by kernel_rfl) ?_ ?_ ?_ ?_; rotate_left; intro w'; go_simp; with_reducible rfl; rotate_left; simp only [nm_]; rfl
              refine pz_ 7 159 ?_ T6m51_ rfl rfl (by kernel_rfl) ?_ ?_ ?_ ?_; rotate_left; intro w'; go_simp; with_reducible rfl; rotate_left; simp only [nm_]; rfl
              refine pz_ 8 160 ?_ T6m52_ rfl rfl (by kernel_rfl) ?_ ?_ ?_ ?_; rotate_left; intro w'; go_simp; with_reducible rfl; rotate_left; simp only [nm_]; rfl
              refine pz_ 9 161 ?_ T6m53_ rfl rfl (by kernel_rfl) ?_ ?_ ?_ ?_; rotate_left; intro w'; go_simp; with_reducible rfl; rotate_left; simp only [nm_]; rfl
              refine tz_ 5 157 ?_ T6m54_ rfl rfl (by kernel_rfl) ?_ hHeld ?_ ?_ ?_; rotate_left; rintro w' ⟨s0, s1⟩; go_simp; with_reducible rfl; rotate_left; simp only [nm_]; rfl
              refine tz_ 10 162 ?_ T6m55_ rfl rfl (by kernel_rfl) ?_ hHeld ?_ ?_ ?_; rotate_left; rintro w' ⟨s0, s1⟩; go_simp; with_reducible rfl; rotate_left; simp only [nm_]; rfl
              refine one_ (i := 11) (N := some 163) #[true, true, true, true, true, true, true, true, true, true, true, true, false, false, false] rfl rfl (by kernel_rfl) (by decide) (fun K hK => ?_)
              refine goes_ Try.func92 (by kernel_rfl) rfl #[.int .u8 f, .int .u8 (rd yE (c : Int))] (by rfl) rfl rfl (by simp only [List.map_toArray, List.map_cons, List.map_nil]; rfl) ?_
              with_reducible refine (foghornref18_Times.calls k f (rd yE (c : Int)) ty _ HT.out).mono ?_
              rintro e wd ⟨rfl, hdr⟩
              refine ⟨_, rfl, ?_⟩
              have HMe := Aside0.mk (HMd.out.drawn hdr HMd.out.bB)
              have hfz := (HMe.out.cellY i HIN.out).2
              clear hdr
              refine hK.out _ _ ⟨(HMe.out.cellY i HIN.out).1, (HMe.out.cellY c HC.out).1⟩ (fun hHeld => ?_)
              clear hK K
              refine norm_ (a' := ?_) ?_ ?_
              rotate_left
              ·show Act.put _ (some 163) _ = _
               simp only [nm_]
               rfl
              refine pz_ 12 164 ?_ T6m56_ rfl rfl (by kernel_rfl) ?_ ?_ ?_ ?_; rotate_left; intro w'; go_simp; with_reducible rfl; rotate_left; simp only [nm_]; rfl
              refine pz_ 13 165 ?_ T6m57_ rfl rfl (by kernel_rfl) ?_ ?_ ?_ ?_; rotate_left; intro w'; go_simp; with_reducible rfl; rotate_left; simp only [nm_]; rfl
              refine last_ (i := 14) (N := none) #[true, true, true, true, true, true, true, true, true, true, true, true, true, true, true] rfl rfl (by kernel_rfl) (by decide) (fun K hK => ?_)
              refine skip_ (w1 := ?_) (by rfl) rfl ?_ ?_
              rotate_left
              ·go_simp
               rfl
              refine hK.out _ _ ?_
              clear hK K
              refine done_ (by kernel_rfl) ?_
              have HM6 := Aside0.mk (HMe.out.putY i (Go.bits .xor .u8 (rd yE (i : Int)) ty) HIN.out)
              clear HMd HMe hfz HM
              generalize (wd.setCell ⟨gy, i, none⟩ (.int .u8 (Go.bits .xor .u8 (rd yE (i : Int)) ty))) = w6 at *
              go_wp2
              go_roundg k4
              case measure => omega
              case rel => exact ⟨i + 1, rowsF, _, (by first | rfl | exact congrArg (fun y => Value.int .i64 y) HWI.out), ⟨by have := HJ.out; omega⟩, ⟨HIN.out⟩, HEL2, HM6⟩
         ·have hl1 : decide (i < n) = false := decide_eq_false hin
          have hl2 : decide ((i : Int) < (n : Int)) = false := decide_eq_false (by omega)
          have hel := HEL.out
          rw [show n - i = 0 by omega, sv_elim] at hel
          simp only [Option.some.injEq, Prod.mk.injEq] at hel
          obtain ⟨rfl, rfl⟩ := hel
          clear hin HEL
          go_wp2
          go_roundg k1
          case measure => omega
          case rel => exact ⟨c + 1, gs1, cp1, _, _, (by first | rfl | exact congrArg (fun y => Value.int .i64 y) (show wrap64 ((c : Int) + 1) = ((c + 1 : Nat) : Int) from by have := HC.out; have := HN.out; unfold wrap64; omega)), ⟨by have := HI.out; omega⟩, ⟨HC.out⟩, HMN, HM⟩
    ·have hl1 : decide (p < n) = false := decide_eq_false hpn
     have hl2 : decide ((p : Int) < (n : Int)) = false := decide_eq_false (by omega)
     have hpe : p = n := by omega
     have hf := HF.out
     rw [show n - p = 0 by omega, sv_find] at hf
     rw [← hf] at HR2
     have hrn := HR2.out
     rw [if_pos hpe] at hrn
     obtain rfl := Option.some.inj hrn
     subst hpe
     clear hf hrn HR2 HF hpn
     go_wp2
     go_ret2
     exact ⟨(by first | rfl | (simp [go_sem]; done)), HM.out.b⟩
  ·have hlt : decide (c < n) = false := decide_eq_false hcn
   have hlt' : decide ((c : Int) < (n : Int)) = false := decide_eq_false (by omega)
   have hrn := HRN.out
   rw [show n - c = 0 by omega, sv_main] at hrn
   obtain rfl := Option.some.inj hrn
   clear hrn hcn HRN
   go_wp2
   go_ret2
   exact ⟨(by first | rfl | (simp [go_sem]; done)), HM.out.fy, HM.out.b⟩
theorem sv_blk_of {w : World} {base : Nat} {ok : Nat → Prop} {g n c : Nat} {l : List Int} (h : Kd.R (Kd.int .u8) 5 w base ok (.slice (some ⟨g, 0, none⟩) n c) l) (hn : 0 < l.length) : sv_Blk w g 5 n (fun j => .int .u8 (rd l (j : Int))) := by
 have hln := (Kd.R_reads' h).1
 obtain ⟨g', c', he, _, _, cs, hcs⟩ := Kd.R_form h hn
 injection he with he _ _
 injection he with he
 injection he with he _ _
 subst he
 refine ⟨cs, hcs, fun j hj => ?_⟩
 have h1 := (Kd.R_celln (0 : Int) h (j : Int) (by omega) (by omega)).1
 rw [Int.toNat_natCast] at h1
 exact (blk_cell hcs j).symm.trans h1
theorem sv_mt_of {w0 w : World} {B : Nat} {vm vy : Value} {l0 : List (List Int)} {l1 : List Int} {okm oky : Nat → Prop} (hm : Kd.S (Kd.slice 5 (Kd.int .u8)) 29 w B okm vm l0) (hy : Kd.R (Kd.int .u8) 5 w B oky vy l1) (hap : ∀ k, okm k → some k ≠ vy.ownBlock) (hb : Below B w0 w)
  (hl : ∀ r ∈ l0, r.length = l0.length) (hl1 : l1.length = l0.length) (hn : 0 < l0.length) :
  ∃ gm cm gy cy gs cp, vm = .slice (some ⟨gm, 0, none⟩) l0.length cm ∧ vy = .slice (some ⟨gy, 0, none⟩) l0.length cy ∧ sv_Mt B w0 w l0.length gm gy cy gs cp (fun i => l0.getD i []) l1 := by
 obtain ⟨gm, cm, rfl, hbm, _, csm, hcm⟩ := Kd.S_form hm hn
 obtain ⟨gy, cy, rfl, hby, _, csy, hcy⟩ := Kd.R_form hy (by omega)
 obtain ⟨f, hf⟩ := hm
 have hrow : ∀ i, ∃ p : Nat × Nat, i < l0.length → w.cell? ⟨gm, i, none⟩ = some (.slice (some ⟨p.1, 0, none⟩) l0.length p.2) ∧ sv_Blk w p.1 5 l0.length (fun j => .int .u8 (rd (l0.getD i []) (j : Int))) ∧ p.1 ≠ gm ∧ p.1 ≠ gy ∧ f p.1 = i ∧ B ≤ p.1 := fun i => by
  by_cases hi : i < l0.length
  ·obtain ⟨c, hcl, hM, hcc, _⟩ := Kd.R_elem hf ([], 0) (i : Int) (by omega) (by omega)
   rw [Int.toNat_natCast, List.getD_eq_getElem?_getD, Kd.zip_at (List.getElem?_eq_getElem hi)] at hM
   obtain ⟨v, rfl, hv⟩ := hM
   have hlen : (l0[i]).length = l0.length := hl _ (List.getElem_mem hi)
   obtain ⟨g, cp, rfl, hbg, _, cs, hcs⟩ := Kd.R_form hv (by show 0 < (l0[i]).length; omega)
   have hok := hv.1 g rfl
   refine ⟨(g, cp), fun _ => ⟨?_, ?_, hok.1.2, fun e => hap g hok.1.1 (by rw [show g = gy from e]; rfl), hok.2, hbg⟩⟩
   ·have h1 := hcc 0 _ rfl
    rw [Int.toNat_natCast] at h1
    have h2 : w.cell? ⟨gm, i * 1 + 0, none⟩ = _ := h1
    rw [Nat.mul_one, Nat.add_zero] at h2
    rw [h2]
    show some (Value.slice (some ⟨g, 0, none⟩) (l0[i]).length cp) = _
    rw [hlen]
   ·have h3 := sv_blk_of hv (by show 0 < (l0[i]).length; omega)
    have h4 : sv_Blk w g 5 (l0[i]).length (fun j => .int .u8 (rd (l0[i]) (j : Int))) := h3
    rw [hlen] at h4
    rw [List.getD_eq_getElem?_getD, List.getElem?_eq_getElem hi]
    exact h4
  ·exact ⟨(0, 0), fun h => absurd h hi⟩
 obtain ⟨F, hF⟩ := Classical.axiomOfChoice hrow
 refine ⟨gm, cm, gy, cy, fun i => (F i).1, fun i => (F i).2, rfl, by rw [hl1], ?_⟩
 have hmy : gm ≠ gy := fun e => by
  rw [e, hcy] at hcm
  injection hcm with hcm
  injection hcm with _ h1 _
  exact absurd h1 (by decide)
 exact {
  fm := ⟨csm, hcm, fun i hi => (blk_cell hcm i).symm.trans (hF i hi).1⟩
  fy := by
   have h1 := Kd.R_mono (ok' := fun k => k = gy) (Kd.R_tight rfl hy) (fun k hk => by
    have h2 : some k = some gy := hk
    injection h2)
   rw [hl1] at h1
   exact h1
  fr := fun i hi => (hF i hi).2.1
  lr := fun i hi => by
   show (l0.getD i []).length = _
   rw [List.getD_eq_getElem?_getD, List.getElem?_eq_getElem hi]
   exact hl _ (List.getElem_mem hi)
  ly := hl1
  my := hmy
  rm := fun i hi => ⟨(hF i hi).2.2.1, (hF i hi).2.2.2.1⟩
  rr := fun i j hi hj hne e => hne (by rw [← (hF i hi).2.2.2.2.1, ← (hF j hj).2.2.2.2.1, e])
  bm := ⟨hbm, hby, fun i hi => (hF i hi).2.2.2.2.2⟩
  b := hb }
set_option maxHeartbeats 8000000 in
set_option maxRecDepth 100000 in
theorem sv_empty (A0 A1 : Option Addr) (c0 c1 : Nat) (w : World) : Calls Try.prog 109 #[.slice A0 0 c0, .slice A1 0 c1] w fun e w' => e = .returned (.tuple #[.slice A1 0 c1, .bool true]) ∧ w' = w := by
 go_enter Try.func109, Try.ntmps109
 go_wp2
 go_loopg [7] 1 (fun kq v7 w' => v7 = .int .i64 0 ∧ w' = w)
 case atStart => exact ⟨rfl, rfl⟩
 case round =>
  obtain ⟨rfl, rfl⟩ := hrel
  go_wp2
  go_ret2
  exact ⟨(by first | rfl | (simp [go_sem]; done)), rfl⟩
theorem foghornref20_solve.own (k B : Nat) (w0 w : World) (vm vy : Value) (l0 : List (List Int)) (l1 r1 : List Int) (r2 : Bool) (okm oky : Nat → Prop) (hm : Kd.S (Kd.slice 5 (Kd.int .u8)) 29 w B okm vm l0) (hy : Kd.R (Kd.int .u8) 5 w B oky vy l1) (hap : ∀ k, okm k → some k ≠ vy.ownBlock) (hb : Below B w0 w) (h : foghornref20_solve.f k l0 l1 = some (r1, r2)) :
  Calls Try.prog 109 #[vm, vy] w fun e w' => ∃ v0_ : Value, e = .returned (.tuple #[v0_, .bool r2]) ∧ Kd.R (Kd.int .u8) 5 w' B (fun _ => True) v0_ r1 ∧ Below B w0 w' := by
 unfold foghornref20_solve.f at h
 split at h
 ·rename_i hc
  obtain ⟨o, ho, h⟩ := Option.map_eq_some_iff.1 h
  rcases Nat.eq_zero_or_pos l0.length with hz | hp
  ·obtain ⟨A0, c0, rfl⟩ := Kd.S_slice hm
   obtain ⟨A1, c1, rfl⟩ := Kd.R_slice hy
   have h1 : l1.length = 0 := by omega
   rw [hz, sv_main] at ho
   obtain rfl := Option.some.inj ho
   simp only [Prod.mk.injEq] at h
   obtain ⟨rfl, rfl⟩ := h
   rw [hz, h1]
   refine (sv_empty A0 A1 c0 c1 w).mono ?_
   rintro e w' ⟨rfl, rfl⟩
   refine ⟨_, rfl, ?_, hb⟩
   have h2 := Kd.R_mono hy (fun _ _ => trivial)
   rw [h1] at h2
   exact h2
  ·obtain ⟨gm, cm, gy, cy, gs, cp, rfl, rfl, hM⟩ := sv_mt_of hm hy hap hb hc.1 hc.2.1 hp
   refine (sv_go k B w0 w l0.length gm cm gy cy gs cp _ l1 o hM ⟨hp, hc.2.2⟩ ho).mono ?_
   intro e w' hpost
   cases o with
   | none =>
    obtain ⟨rfl, hb'⟩ := hpost
    simp only [Prod.mk.injEq] at h
    obtain ⟨rfl, rfl⟩ := h
    exact ⟨_, rfl, Kd.R_nil _ _ _ _ _, hb'⟩
   | some z =>
    obtain ⟨rfl, hz, hb'⟩ := hpost
    simp only [Prod.mk.injEq] at h
    obtain ⟨rfl, rfl⟩ := h
    exact ⟨_, rfl, Kd.R_mono hz (fun _ _ => trivial), hb'⟩
 ·cases h
end Go.Proofs.Ytncoakokdajibaa.Q
