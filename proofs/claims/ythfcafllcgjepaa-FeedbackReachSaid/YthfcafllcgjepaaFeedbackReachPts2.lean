import Derived.Test.YthfcafllcgjepaaFeedbackReachPts
/- Layer 4's points, as lists: none twice, closed under a quarter's turn; those of the squares are all odd pairs. (Printed by mkpts.py, ours.) -/
namespace Go.Proofs.Ythfcafllcgjepaa.Pt
open Go.RowKit Go.Proofs.Ythfcafllcgjepaa.Q
def nodupB : List (Int × Int) → Bool
  | [] => true
  | a :: t => !t.contains a && nodupB t
def odds (e : Nat) : List Int := (List.range (e + 1)).map fun i : Nat => 2 * (i : Int) - (e : Int)
def fullB (l : List (Int × Int)) (e : Nat) : Bool := (odds e).all fun a => (odds e).all fun b => l.contains (a, b)
def lit4 : List (Int × Int) := [(-1, -1), (-1, 1), (1, -1), (1, 1)]
def lit16 : List (Int × Int) := [(-3, -3), (-3, -1), (-3, 3), (-3, 1), (-1, -3), (-1, -1), (-1, 3), (-1, 1), (3, -3), (3, -1), (3, 3), (3, 1), (1, -3), (1, -1), (1, 3), (1, 1)]
def lit32 : List (Int × Int) := [(-5, -3), (-5, -1), (-5, 1), (-5, 3), (-3, -5), (-3, -3), (-3, -1), (-3, 1), (-3, 3), (-3, 5), (-1, -5), (-1, -3), (-1, -1), (-1, 1), (-1, 3), (-1, 5), (1, -5), (1, -3), (1, -1), (1, 1), (1, 3), (1, 5), (3, -5), (3, -3), (3, -1), (3, 1), (3, 3), (3, 5), (5, -3), (5, -1), (5, 1), (5, 3)]
def lit64 : List (Int × Int) := [(-7, -7), (-7, -5), (-7, -1), (-7, -3), (-7, 7), (-7, 5), (-7, 1), (-7, 3), (-5, -7), (-5, -5), (-5, -1), (-5, -3), (-5, 7), (-5, 5), (-5, 1), (-5, 3), (-1, -7), (-1, -5), (-1, -1), (-1, -3), (-1, 7), (-1, 5), (-1, 1), (-1, 3), (-3, -7), (-3, -5), (-3, -1), (-3, -3), (-3, 7), (-3, 5), (-3, 1), (-3, 3), (7, -7), (7, -5), (7, -1), (7, -3), (7, 7), (7, 5), (7, 1), (7, 3), (5, -7), (5, -5), (5, -1), (5, -3), (5, 7), (5, 5), (5, 1), (5, 3), (1, -7), (1, -5), (1, -1), (1, -3), (1, 7), (1, 5), (1, 1), (1, 3), (3, -7), (3, -5), (3, -1), (3, -3), (3, 7), (3, 5), (3, 1), (3, 3)]
def lit128 : List (Int × Int) := [(-11, -7), (-11, -5), (-11, -3), (-11, -1), (-11, 1), (-11, 3), (-11, 5), (-11, 7), (-9, -7), (-9, -5), (-9, -3), (-9, -1), (-9, 1), (-9, 3), (-9, 5), (-9, 7), (-7, -11), (-7, -9), (-7, -7), (-7, -5), (-7, -3), (-7, -1), (-7, 1), (-7, 3), (-7, 5), (-7, 7), (-7, 9), (-7, 11), (-5, -11), (-5, -9), (-5, -7), (-5, -5), (-5, -3), (-5, -1), (-5, 1), (-5, 3), (-5, 5), (-5, 7), (-5, 9), (-5, 11), (-3, -11), (-3, -9), (-3, -7), (-3, -5), (-3, -3), (-3, -1), (-3, 1), (-3, 3), (-3, 5), (-3, 7), (-3, 9), (-3, 11), (-1, -11), (-1, -9), (-1, -7), (-1, -5), (-1, -3), (-1, -1), (-1, 1), (-1, 3), (-1, 5), (-1, 7), (-1, 9), (-1, 11), (1, -11), (1, -9), (1, -7), (1, -5), (1, -3), (1, -1), (1, 1), (1, 3), (1, 5), (1, 7), (1, 9), (1, 11), (3, -11), (3, -9), (3, -7), (3, -5), (3, -3), (3, -1), (3, 1), (3, 3), (3, 5), (3, 7), (3, 9), (3, 11), (5, -11), (5, -9), (5, -7), (5, -5), (5, -3), (5, -1), (5, 1), (5, 3), (5, 5), (5, 7), (5, 9), (5, 11), (7, -11), (7, -9), (7, -7), (7, -5), (7, -3), (7, -1), (7, 1), (7, 3), (7, 5), (7, 7), (7, 9), (7, 11), (9, -7), (9, -5), (9, -3), (9, -1), (9, 1), (9, 3), (9, 5), (9, 7), (11, -7), (11, -5), (11, -3), (11, -1), (11, 1), (11, 3), (11, 5), (11, 7)]
def lit256 : List (Int × Int) := [(-15, -15), (-15, -13), (-15, -9), (-15, -11), (-15, -1), (-15, -3), (-15, -7), (-15, -5), (-15, 15), (-15, 13), (-15, 9), (-15, 11), (-15, 1), (-15, 3), (-15, 7), (-15, 5), (-13, -15), (-13, -13), (-13, -9), (-13, -11), (-13, -1), (-13, -3), (-13, -7), (-13, -5), (-13, 15), (-13, 13), (-13, 9), (-13, 11), (-13, 1), (-13, 3), (-13, 7), (-13, 5), (-9, -15), (-9, -13), (-9, -9), (-9, -11), (-9, -1), (-9, -3), (-9, -7), (-9, -5), (-9, 15), (-9, 13), (-9, 9), (-9, 11), (-9, 1), (-9, 3), (-9, 7), (-9, 5), (-11, -15), (-11, -13), (-11, -9), (-11, -11), (-11, -1), (-11, -3), (-11, -7), (-11, -5), (-11, 15), (-11, 13), (-11, 9), (-11, 11), (-11, 1), (-11, 3), (-11, 7), (-11, 5), (-1, -15), (-1, -13), (-1, -9), (-1, -11), (-1, -1), (-1, -3), (-1, -7), (-1, -5), (-1, 15), (-1, 13), (-1, 9), (-1, 11), (-1, 1), (-1, 3), (-1, 7), (-1, 5), (-3, -15), (-3, -13), (-3, -9), (-3, -11), (-3, -1), (-3, -3), (-3, -7), (-3, -5), (-3, 15), (-3, 13), (-3, 9), (-3, 11), (-3, 1), (-3, 3), (-3, 7), (-3, 5), (-7, -15), (-7, -13), (-7, -9), (-7, -11), (-7, -1), (-7, -3), (-7, -7), (-7, -5), (-7, 15), (-7, 13), (-7, 9), (-7, 11), (-7, 1), (-7, 3), (-7, 7), (-7, 5), (-5, -15), (-5, -13), (-5, -9), (-5, -11), (-5, -1), (-5, -3), (-5, -7), (-5, -5), (-5, 15), (-5, 13), (-5, 9), (-5, 11), (-5, 1), (-5, 3), (-5, 7), (-5, 5), (15, -15), (15, -13), (15, -9), (15, -11), (15, -1), (15, -3), (15, -7), (15, -5), (15, 15), (15, 13), (15, 9), (15, 11), (15, 1), (15, 3), (15, 7), (15, 5), (13, -15), (13, -13), (13, -9), (13, -11), (13, -1), (13, -3), (13, -7), (13, -5), (13, 15), (13, 13), (13, 9), (13, 11), (13, 1), (13, 3), (13, 7), (13, 5), (9, -15), (9, -13), (9, -9), (9, -11), (9, -1), (9, -3), (9, -7), (9, -5), (9, 15), (9, 13), (9, 9), (9, 11), (9, 1), (9, 3), (9, 7), (9, 5), (11, -15), (11, -13), (11, -9), (11, -11), (11, -1), (11, -3), (11, -7), (11, -5), (11, 15), (11, 13), (11, 9), (11, 11), (11, 1), (11, 3), (11, 7), (11, 5), (1, -15), (1, -13), (1, -9), (1, -11), (1, -1), (1, -3), (1, -7), (1, -5), (1, 15), (1, 13), (1, 9), (1, 11), (1, 1), (1, 3), (1, 7), (1, 5), (3, -15), (3, -13), (3, -9), (3, -11), (3, -1), (3, -3), (3, -7), (3, -5), (3, 15), (3, 13), (3, 9), (3, 11), (3, 1), (3, 3), (3, 7), (3, 5), (7, -15), (7, -13), (7, -9), (7, -11), (7, -1), (7, -3), (7, -7), (7, -5), (7, 15), (7, 13), (7, 9), (7, 11), (7, 1), (7, 3), (7, 7), (7, 5), (5, -15), (5, -13), (5, -9), (5, -11), (5, -1), (5, -3), (5, -7), (5, -5), (5, 15), (5, 13), (5, 9), (5, 11), (5, 1), (5, 3), (5, 7), (5, 5)]
theorem lit4_eq : pts 4 = lit4 := by decide +kernel
theorem lit4_no : nodupB lit4 = true := by decide +kernel
theorem lit16_eq : pts 16 = lit16 := by decide +kernel
theorem lit16_no : nodupB lit16 = true := by decide +kernel
theorem lit32_eq : pts 32 = lit32 := by decide +kernel
theorem lit32_no : nodupB lit32 = true := by decide +kernel
theorem lit64_eq : pts 64 = lit64 := by decide +kernel
theorem lit64_no : nodupB lit64 = true := by decide +kernel
theorem lit128_eq : pts 128 = lit128 := by decide +kernel
theorem lit128_no : nodupB lit128 = true := by decide +kernel
theorem lit256_eq : pts 256 = lit256 := by decide +kernel
theorem lit256_no : nodupB lit256 = true := by decide +kernel
theorem lit4_full : fullB lit4 1 = true := by decide +kernel
theorem lit16_full : fullB lit16 3 = true := by decide +kernel
theorem lit64_full : fullB lit64 7 = true := by decide +kernel
theorem lit256_full : fullB lit256 15 = true := by decide +kernel
theorem nodupB_get {l : List (Int × Int)} (h : nodupB l = true) : ∀ i j : Nat, i < j → ∀ p, l[i]? = some p → l[j]? = some p → False := by
  induction l with
  | nil => intro i j _ p h1; simp at h1
  | cons a t ih =>
    intro i j hij p h1 h2
    unfold nodupB at h
    rw [Bool.and_eq_true] at h
    cases j with
    | zero => omega
    | succ j =>
      rw [List.getElem?_cons_succ] at h2
      cases i with
      | zero =>
        rw [List.getElem?_cons_zero] at h1
        obtain rfl := Option.some.inj h1
        have := h.1
        rw [Bool.not_eq_true'] at this
        have hm : a ∈ t := List.mem_of_getElem? h2
        rw [List.contains_iff_mem.2 hm] at this
        cases this
      | succ i =>
        rw [List.getElem?_cons_succ] at h1
        exact ih h.2 i j (by omega) p h1 h2
theorem no_twice {s : Int} (h : Six s) : nodupB (pts s) = true := by
  rcases h with rfl | rfl | rfl | rfl | rfl | rfl
  · rw [lit4_eq]; exact lit4_no
  · rw [lit16_eq]; exact lit16_no
  · rw [lit32_eq]; exact lit32_no
  · rw [lit64_eq]; exact lit64_no
  · rw [lit128_eq]; exact lit128_no
  · rw [lit256_eq]; exact lit256_no
theorem odds_mem {e : Nat} {a : Int} (h1 : -(e : Int) ≤ a) (h2 : a ≤ e) (h3 : (a + e) % 2 = 0) : a ∈ odds e := by
  unfold odds
  refine List.mem_map.2 ⟨((a + e) / 2).toNat, List.mem_range.2 (by omega), by omega⟩
theorem full_mem {s : Int} (h : s = 4 ∨ s = 16 ∨ s = 64 ∨ s = 256) {a b : Int} (ha : a % 2 = 1) (hb : b % 2 = 1) (h1 : -edge s ≤ a) (h2 : a ≤ edge s) (h3 : -edge s ≤ b) (h4 : b ≤ edge s) : (a, b) ∈ pts s := by
  have key : ∃ e : Nat, edge s = e ∧ (e : Int) % 2 = 1 ∧ fullB (pts s) e = true := by
    rcases h with rfl | rfl | rfl | rfl
    · exact ⟨1, rfl, rfl, by rw [lit4_eq]; exact lit4_full⟩
    · exact ⟨3, rfl, rfl, by rw [lit16_eq]; exact lit16_full⟩
    · exact ⟨7, rfl, rfl, by rw [lit64_eq]; exact lit64_full⟩
    · exact ⟨15, rfl, rfl, by rw [lit256_eq]; exact lit256_full⟩
  obtain ⟨e, e1, e2, e3⟩ := key
  rw [e1] at h1 h2 h3 h4
  have ma := odds_mem h1 h2 (by omega)
  have mb := odds_mem h3 h4 (by omega)
  exact List.contains_iff_mem.1 (List.all_eq_true.1 (List.all_eq_true.1 e3 a ma) b mb)
theorem pt_get {s l : Int} (h : Six s) (h0 : 0 ≤ l) (h1 : l < s) : (pts s)[l.toNat]? = some (pt s l) := by
  have hl := len_ h
  unfold pt
  rw [List.getD_eq_getElem?_getD, List.getElem?_eq_getElem (by omega)]
  rfl
theorem pt_inj {s l m : Int} (h : Six s) (h0 : 0 ≤ l) (h1 : l < s) (g0 : 0 ≤ m) (g1 : m < s) (e : pt s l = pt s m) : l = m := by
  have a := pt_get h h0 h1
  have b := pt_get h g0 g1
  rw [e] at a
  rcases Int.lt_trichotomy l m with c | c | c
  · exact (nodupB_get (no_twice h) l.toNat m.toNat (by omega) _ a b).elim
  · exact c
  · exact (nodupB_get (no_twice h) m.toNat l.toNat (by omega) _ b a).elim
theorem pt_of_mem {s : Int} (h : Six s) {p : Int × Int} (hp : p ∈ pts s) : ∃ l : Int, 0 ≤ l ∧ l < s ∧ pt s l = p := by
  have hl := len_ h
  obtain ⟨i, hi, rfl⟩ := List.mem_iff_getElem.1 hp
  refine ⟨i, by omega, by omega, ?_⟩
  unfold pt
  rw [List.getD_eq_getElem?_getD, Int.toNat_natCast, List.getElem?_eq_getElem hi]
  rfl
end Go.Proofs.Ythfcafllcgjepaa.Pt
