import Derived.Test.YtmdeldiocaofkaaWWords
import Derived.Deep.Slices
import Derived.ChangeArms
import Derived.WideShapes
/- From an argument's reading as data to what the printed walks ask of it: whole numbers, bools, strings, slices and structs of these. -/
namespace Go.Proofs.Ytmdeldiocaofkaa.Reads
open Go.ChangeShapes Go.WideShapes Go.Proofs.YtmdeldiocaofkaaW.PrintWords

/-- What reads as data of type t reads as d tells it. -/
def Kin {α : Type} (d : Kd α) (Wf : α → Prop) (P : Program) (t : TypeId) : Prop :=
  ∀ {H : Type} (enc : TypeId × Value → H) (w : World) (base : Nat) (spare : Nat → Bool) (held : Bool) (fuel : Nat) (cs : List Value) (x : DataW H × List MemPlace), DataW.trod enc P w base spare held fuel t cs = some x → ∃ y, d.K w y cs ∧ Wf y
theorem Kin.int {P : Program} {t : TypeId} {k : IntKind} (ht : P.underlying t = some (.int k)) : Kin (Kd.int k) (fun n => (Lit.int k n).wf = true) P t := by
  intro H enc w base spare held fuel cs x h
  obtain ⟨n, rfl, _, hw⟩ := DataW.trod_int ht h
  exact ⟨n, rfl, hw⟩
theorem Kin.bool {P : Program} {t : TypeId} (ht : P.underlying t = some .bool) : Kin Kd.bool (fun _ => True) P t := by
  intro H enc w base spare held fuel cs x h
  obtain ⟨b, rfl, _⟩ := DataW.trod_bool ht h
  exact ⟨b, rfl, trivial⟩
theorem Kin.string {P : Program} {t : TypeId} (ht : P.underlying t = some .string) : Kin Kd.string (fun s => s.size ≤ maxLen) P t := by
  intro H enc w base spare held fuel cs x h
  obtain ⟨s, rfl, _, hs⟩ := DataW.trod_string ht h
  exact ⟨s, rfl, hs⟩
theorem list_of {α : Type} {Q : Nat → α → Prop} (n : Nat) (h : ∀ i, i < n → ∃ y, Q i y) : ∃ ys : List α, ys.length = n ∧ ∀ i y, ys[i]? = some y → Q i y := by
  induction n with
  | zero => exact ⟨[], rfl, fun i y hy => by simp at hy⟩
  | succ n ih =>
    obtain ⟨ys, hl, hq⟩ := ih (fun i hi => h i (by omega))
    obtain ⟨y, hy⟩ := h n (by omega)
    refine ⟨ys ++ [y], by rw [List.length_append, hl]; rfl, fun i z hz => ?_⟩
    rw [List.getElem?_append] at hz
    by_cases hi : i < ys.length
    · rw [if_pos hi] at hz; exact hq i z hz
    · rw [if_neg hi] at hz
      have hi2 : i - ys.length = 0 := by
        have := (List.getElem?_eq_some_iff.1 hz).1
        simp only [List.length_singleton] at this
        omega
      rw [hi2] at hz
      have : y = z := by simpa using hz
      subst this
      rwa [show i = n from by omega]
theorem Kin.slice {α : Type} {d : Kd α} {Wf : α → Prop} {P : Program} {t e : TypeId} (ht : P.underlying t = some (.slice e)) (hs : P.cellsOf e = d.sz) (hd : Kin d Wf P e) : Kin (Kd.slice e d) (fun l => l.length ≤ maxLen ∧ ∀ x ∈ l, Wf x) P t := by
  intro H enc w base spare held fuel cs x h
  rcases Deep.open_slice ht h with ⟨rfl, _⟩ | ⟨a, len, cap, m, n, D, Pl, rfl, _, hl, hm, hmm, _, hi⟩
  · exact ⟨[], ⟨none, 0, rfl, Nat.le_refl _, rfl, Nat.zero_le _, fun h => absurd h (Nat.lt_irrefl 0)⟩, Nat.zero_le _, fun x hx => by cases hx⟩
  · have hlm : len ≤ m := by rw [hmm]; split <;> omega
    obtain ⟨ys, hyl, hys⟩ := list_of (Q := fun i y => ∃ c, c.length = d.sz ∧ d.K w y c ∧ (∀ j u, c[j]? = some u → w.cell? (a.add (i * d.sz + j)) = some u) ∧ Wf y) len (fun i hil => by
      obtain ⟨cs', hc, ht'⟩ := hi i (by omega)
      obtain ⟨y, hK, hW⟩ := hd enc w base spare held n cs' _ ht'
      obtain ⟨_, hcl, hat⟩ := World.cells?_some hc
      rw [hs] at hc hcl hat
      refine ⟨y, cs', hcl, hK, fun j u hj => ?_, hW⟩
      have hjl : j < d.sz := by have := (List.getElem?_eq_some_iff.1 hj).1; omega
      rw [← Deep.add_add, hat j hjl, hj])
    subst hyl
    refine ⟨ys, ⟨some a, cap, rfl, hl, rfl, ?_, fun _ => ⟨a, rfl, fun j p hj => ?_⟩⟩, Nat.le_trans hl hm, fun x hx => ?_⟩
    · have : maxLen = 9223372036854775807 := rfl
      omega
    · obtain ⟨c, h1, h2, h3, _⟩ := hys j p hj
      exact ⟨c, h1, h2, h3⟩
    · obtain ⟨i, hi, e⟩ := List.mem_iff_getElem.1 hx
      obtain ⟨_, _, _, _, h4⟩ := hys i x (by rw [List.getElem?_eq_getElem hi, e])
      exact h4
/-- A field out of a struct's reading. -/
theorem field_of {α : Type} {d : Kd α} {Wf : α → Prop} {P : Program} {t : TypeId} (hd : Kin d Wf P t) {H : Type} {enc : TypeId × Value → H} {w : World} {base : Nat} {spare : Nat → Bool} {held : Bool} {n : Nat} {cs : List Value} {xs : List (DataW H × List MemPlace)} {i : Nat} (hi : i < xs.length)
    (h : DataW.trod enc P w base spare held n t cs = xs[i]?) : ∃ y, d.K w y cs ∧ Wf y := by
  rw [List.getElem?_eq_getElem hi] at h
  exact hd enc w base spare held n cs _ h
end Go.Proofs.Ytmdeldiocaofkaa.Reads
