import Derived.Test.YthfcafllcgjepaaFeedbackReachFeed1
import Derived.Test.YthfcafllcgjepaaFeedbackReachF1
/- Layer 4's points: the program's are the document's; whole numbers tell them. -/
namespace Go.Proofs.Ythfcafllcgjepaa.Pt
open Ieee Go.RowKit Go.Proofs.Ythfcafllcgjepaa.Q Go.Proofs.YthfcafllcgjepaaW.PrintWords Go.Proofs.YthfcafllcgjepaaW.PrintLast Go.Proofs.YthfcafllcgjepaaW.PrintMore Go.Proofs.Ythfcafllcgjepaa.Flt Go.Proofs.Ythfcafllcgjepaa.Feed
theorem ref4 : foghornref04_All.f 4000 4 = points_All.f 4 := by decide +kernel
theorem ref16 : foghornref04_All.f 4000 16 = points_All.f 16 := by decide +kernel
theorem ref32 : foghornref04_All.f 4000 32 = points_All.f 32 := by decide +kernel
theorem ref64 : foghornref04_All.f 4000 64 = points_All.f 64 := by decide +kernel
theorem ref128 : foghornref04_All.f 4000 128 = points_All.f 128 := by decide +kernel
theorem ref256 : foghornref04_All.f 4000 256 = points_All.f 256 := by decide +kernel
def Six (s : Int) : Prop := s = 4 ∨ s = 16 ∨ s = 32 ∨ s = 64 ∨ s = 128 ∨ s = 256
instance (s : Int) : Decidable (Six s) := by unfold Six; infer_instance
def toC (p : Int × Int) : Nat × Nat := (floatOfInt .f64 p.1, floatOfInt .f64 p.2)
def wh (x : Nat) : Int := (floatToIntVal .f64 x .i64).getD 0
def pts (s : Int) : List (Int × Int) := ((points_All.f s).map fun r => r.1.map fun z => (wh z.1, wh z.2)).getD []
def edge (s : Int) : Int := if s = 4 then 1 else if s = 16 then 3 else if s = 32 then 5 else if s = 64 then 7 else if s = 128 then 11 else 15
def good (s : Int) : Bool := points_All.f s == some ((pts s).map toC, 0) && (((pts s).length : Int) == s) && (pts s).all (fun p => p.1 % 2 == 1 && p.2 % 2 == 1 && decide (-edge s ≤ p.1) && decide (p.1 ≤ edge s) && decide (-edge s ≤ p.2) && decide (p.2 ≤ edge s))
theorem good4 : good 4 = true := by decide +kernel
theorem good16 : good 16 = true := by decide +kernel
theorem good32 : good 32 = true := by decide +kernel
theorem good64 : good 64 = true := by decide +kernel
theorem good128 : good 128 = true := by decide +kernel
theorem good256 : good 256 = true := by decide +kernel
theorem good_of {s : Int} (h : Six s) : good s = true := by
  rcases h with rfl | rfl | rfl | rfl | rfl | rfl
  · exact good4
  · exact good16
  · exact good32
  · exact good64
  · exact good128
  · exact good256
theorem all_ {s : Int} (h : Six s) : points_All.f s = some ((pts s).map toC, 0) := by
  have := good_of h
  unfold good at this
  simp only [Bool.and_eq_true, beq_iff_eq] at this
  exact this.1.1
theorem len_ {s : Int} (h : Six s) : ((pts s).length : Int) = s := by
  have := good_of h
  unfold good at this
  simp only [Bool.and_eq_true, beq_iff_eq] at this
  exact this.1.2
theorem mem_ {s : Int} (h : Six s) {p : Int × Int} (hp : p ∈ pts s) : p.1 % 2 = 1 ∧ p.2 % 2 = 1 ∧ -edge s ≤ p.1 ∧ p.1 ≤ edge s ∧ -edge s ≤ p.2 ∧ p.2 ≤ edge s := by
  have := good_of h
  unfold good at this
  simp only [Bool.and_eq_true, beq_iff_eq] at this
  have := List.all_eq_true.1 this.2 p hp
  simp only [Bool.and_eq_true, beq_iff_eq, decide_eq_true_eq] at this
  omega
theorem edge_ {s : Int} (h : Six s) : 1 ≤ edge s ∧ edge s ≤ 15 ∧ edge s % 2 = 1 := by
  rcases h with rfl | rfl | rfl | rfl | rfl | rfl <;> decide
theorem ref_all {s : Int} (h : Six s) : Ev (fun k => foghornref04_All.f k s) ((pts s).map toC, 0) := by
  have e := all_ h
  refine Ev.of (fun k => foghornref04_All.mono s k) (k := 4000) ?_
  rw [← e]
  rcases h with rfl | rfl | rfl | rfl | rfl | rfl
  · exact ref4
  · exact ref16
  · exact ref32
  · exact ref64
  · exact ref128
  · exact ref256
theorem spec_no {s : Int} (h : ¬ Six s) : pts_spec s = none := by
  unfold Six at h
  unfold pts_spec
  rw [if_neg (by omega), if_neg (by omega), if_neg (by omega), if_neg (by omega), if_neg (by omega), if_neg (by omega)]
theorem edge_no {s : Int} (h : ¬ Six s) : points_Edge.f s = some (0, 1) := by rw [points_Edge.f, spec_no h]
theorem at_no {s : Int} (h : ¬ Six s) (l : Int) : points_At.f s l = some ((0, 0), 1) := by rw [points_At.f, spec_no h]
theorem edge_yes {s : Int} (h : Six s) : points_Edge.f s = some (edge s, 0) := by rcases h with rfl | rfl | rfl | rfl | rfl | rfl <;> rfl
theorem redge_yes {s : Int} (h : Six s) : foghornref04_Edge.f s = some (edge s, 0) := by rcases h with rfl | rfl | rfl | rfl | rfl | rfl <;> rfl
theorem redge_no {s : Int} (h : ¬ Six s) : foghornref04_Edge.f s = some (0, 1) := by
  unfold Six at h
  rw [foghornref04_Edge.f, if_neg (by omega), if_neg (by omega), if_neg (by omega), if_neg (by omega), if_neg (by omega), if_neg (by omega)]
theorem rall_no {s : Int} (h : ¬ Six s) : Ev (fun k => foghornref04_All.f k s) ([], 1) := by
  refine Ev.congr (fun k => by rw [foghornref04_All.f, foghornref04_Points.f, redge_no h, Option.bind_some, if_neg (by decide), Option.bind_some]) (Ev.stepTo _ (fun k _ => by rw [foghornref04_All.l0, if_neg (by decide)]) (Ev.now _))
theorem pts_all_get (F : Int → Option (Nat × Nat)) (n : Nat) : ∀ l, pts_all F n = some l → l.length = n ∧ ∀ i : Nat, i < n → F (i : Int) = l[i]? := by
  induction n with
  | zero => intro l h; cases h; exact ⟨rfl, fun i hi => absurd hi (Nat.not_lt_zero i)⟩
  | succ n ih =>
    intro l h
    obtain ⟨m, hm, h⟩ := Option.bind_eq_some_iff.1 (show (pts_all F n).bind _ = some l from h)
    obtain ⟨r, hr, h⟩ := Option.bind_eq_some_iff.1 h
    obtain rfl := Option.some.inj h
    obtain ⟨h1, h2⟩ := ih m hm
    refine ⟨by rw [List.length_append, h1]; rfl, fun i hi => ?_⟩
    rcases Nat.lt_or_ge i n with c | c
    · rw [List.getElem?_append_left (by omega)]; exact h2 i c
    · obtain rfl : i = n := by omega
      rw [hr, List.getElem?_append_right (by omega), h1, Nat.sub_self]
      rfl
def pt (s l : Int) : Int × Int := (pts s).getD l.toNat (0, 0)
theorem at_yes {s l : Int} (h : Six s) (h0 : 0 ≤ l) (h1 : l < s) : points_At.f s l = some (toC (pt s l), 0) := by
  have ha := all_ h
  have hl := len_ h
  have hs : ∃ x, pts_spec s = some x := by rcases h with rfl | rfl | rfl | rfl | rfl | rfl <;> exact ⟨_, rfl⟩
  obtain ⟨x, hx⟩ := hs
  rw [points_All.f, hx] at ha
  obtain ⟨m, hm, hm2⟩ := Option.bind_eq_some_iff.1 (show (pts_all x.2.2 s.toNat).bind _ = _ from ha)
  obtain rfl : m = (pts s).map toC := (Prod.mk.inj (Option.some.inj hm2)).1
  obtain ⟨_, hF⟩ := pts_all_get _ _ _ hm
  have e := hF l.toNat (by omega)
  rw [show ((l.toNat : Nat) : Int) = l by omega, List.getElem?_map, List.getElem?_eq_getElem (by omega)] at e
  rw [points_At.f, hx]
  show (if 0 ≤ l ∧ l < s then _ else _) = _
  rw [if_pos ⟨h0, h1⟩, e]
  unfold pt
  rw [List.getD_eq_getElem?_getD, List.getElem?_eq_getElem (by omega)]
  rfl
theorem at_out {s l : Int} (h : Six s) (hl : l < 0 ∨ s ≤ l) : points_At.f s l = some ((0, 0), 1) := by
  have hs : ∃ x, pts_spec s = some x := by rcases h with rfl | rfl | rfl | rfl | rfl | rfl <;> exact ⟨_, rfl⟩
  obtain ⟨x, hx⟩ := hs
  rw [points_At.f, hx]
  show (if 0 ≤ l ∧ l < s then _ else _) = _
  rw [if_neg (by omega)]
theorem rat_no {s : Int} (h : ¬ Six s) (l : Int) : Ev (fun k => foghornref04_At.f k s l) ((0, 0), 1) :=
  Ev.congr (fun k => by rw [foghornref04_At.f]) (Ev.bind (rall_no h) (Ev.congr (fun k => by rw [if_neg (by decide)]) (Ev.now _)))
theorem rat_out {s l : Int} (h : Six s) (hl : l < 0 ∨ s ≤ l) : Ev (fun k => foghornref04_At.f k s l) ((0, 0), 1) := by
  refine Ev.congr (fun k => by rw [foghornref04_At.f]) (Ev.bind (ref_all h) (Ev.congr (fun k => ?_) (Ev.now _)))
  rw [if_pos rfl]
  by_cases c : l < 0
  · rw [if_pos c]
  · rw [if_neg c, if_pos (by omega)]
theorem rd_toC {s l : Int} (h : Six s) (h0 : 0 ≤ l) (h1 : l < s) : rdOf (0, 0) ((pts s).map toC) l = toC (pt s l) := by
  have hl := len_ h
  obtain ⟨i, rfl⟩ : ∃ i : Nat, l = (i : Int) := ⟨l.toNat, by omega⟩
  rw [rd_nat _ _ _ (by rw [List.length_map]; omega), List.getElem_map]
  unfold pt
  rw [List.getD_eq_getElem?_getD, Int.toNat_natCast, List.getElem?_eq_getElem (by omega)]
  rfl
theorem rat_yes {s l : Int} (h : Six s) (h0 : 0 ≤ l) (h1 : l < s) : Ev (fun k => foghornref04_At.f k s l) (toC (pt s l), 0) := by
  have hl := len_ h
  refine Ev.congr (fun k => by rw [foghornref04_At.f]) (Ev.bind (ref_all h) (Ev.congr (fun k => ?_) (Ev.now _)))
  rw [if_pos rfl, if_neg (by omega), if_neg (by omega), if_pos h0, if_pos (by rw [List.length_map]; omega), rd_toC h h0 h1]
theorem pt_mem {s l : Int} (h : Six s) (h0 : 0 ≤ l) (h1 : l < s) : pt s l ∈ pts s := by
  have hl := len_ h
  unfold pt
  rw [List.getD_eq_getElem?_getD, List.getElem?_eq_getElem (by omega)]
  exact List.getElem_mem _
theorem fin_toC {p : Int × Int} (h1 : p.1.natAbs < 2 ^ 53) (h2 : p.2.natAbs < 2 ^ 53) : fin (toC p).1 ∧ fin (toC p).2 := ⟨(Is.ofInt p.1 h1).1, (Is.ofInt p.2 h2).1⟩
theorem fin_pt {s l : Int} (h : Six s) (h0 : 0 ≤ l) (h1 : l < s) : fin (toC (pt s l)).1 ∧ fin (toC (pt s l)).2 := by
  have := mem_ h (pt_mem h h0 h1)
  have := edge_ h
  exact fin_toC (by omega) (by omega)
end Go.Proofs.Ythfcafllcgjepaa.Pt
