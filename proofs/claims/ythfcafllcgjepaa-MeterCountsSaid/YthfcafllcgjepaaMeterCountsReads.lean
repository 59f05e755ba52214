import Derived.Test.YthfcafllcgjepaaMeterCountsWWords
import Derived.Test.YthfcafllcgjepaaRows
import Derived.Deep.Slices
import Derived.ChangeArms
import Derived.WideShapes
import Derived.SizedLaws
/- From an argument's reading as data to what the printed walks ask of it: whole numbers, bools, strings, slices and structs of these. -/
namespace Go.Proofs.Ythfcafllcgjepaa.Reads
open Go.ChangeShapes Go.WideShapes Go.Proofs.YthfcafllcgjepaaW.PrintWords

/-- No part of a datum is greater than any memory. -/
def Light {H : Type} (P : Program) (t : TypeId) (d : DataW H) : Prop := ∀ n ∈ d.weights P t, n ≤ 140737488351232
theorem Light.arg {H : Type} {P : Program} {ts : List TypeId} {ds : List (DataW H)} (h : (DataW.weightsEach P ts ds).all (· ≤ reachBytes) = true) {j : Nat} {t : TypeId} {d : DataW H} (ht : ts[j]? = some t) (hd : ds[j]? = some d) : Light P t d := fun n hn => by
  have := List.all_eq_true.1 h _ (DataW.weights_mem_each ht hd n hn)
  exact of_decide_eq_true this
theorem Light.field {H : Type} {P : Program} {t ft : TypeId} {fs : Array Field} {parts : List (DataW H)} {d : DataW H} (hu : P.underlying t = some (.struct fs)) (h : Light P t (.agg parts)) {i : Nat} (hf : (fs.toList.map (·.type))[i]? = some ft) (hp : parts[i]? = some d) : Light P ft d := fun n hn =>
  h n (by rw [DataW.weights, hu]; exact DataW.weights_mem_each hf hp n hn)
theorem weights_all {H : Type} {P : Program} {e : TypeId} {d : DataW H} {n : Nat} (hn : n ∈ d.weights P e) : ∀ {l : List (DataW H)}, d ∈ l → n ∈ DataW.weightsAll P e l
  | x :: l, h => by
    rw [DataW.weightsAll, List.mem_append]
    rcases List.mem_cons.1 h with rfl | h
    · exact Or.inl hn
    · exact Or.inr (weights_all hn h)
/-- What reads as data of type t reads as d tells it; bk: how much of it there is, at most. -/
def Kin {α : Type} (d : Kd α) (Wf : α → Prop) (bk : α → Nat) (P : Program) (t : TypeId) : Prop :=
  ∀ {H : Type} (enc : TypeId × Value → H) (w : World) (base : Nat) (spare : Nat → Bool) (held : Bool) (fuel : Nat) (cs : List Value) (x : DataW H × List MemPlace), DataW.trod enc P w base spare held fuel t cs = some x → Light P t x.1 → ∃ y, d.K w y cs ∧ Wf y ∧ bk y ≤ Rows.uptoBulk x.1
theorem one_le {H : Type} (d : DataW H) : 1 ≤ Rows.uptoBulk d := by
  cases d with
  | lit l => cases l <;> simp [Rows.uptoBulk]
  | nil => simp [Rows.uptoBulk]
  | ptr d => simp [Rows.uptoBulk]
  | slice elems spare => simp [Rows.uptoBulk]
  | agg parts => simp [Rows.uptoBulk]
  | iface t d => simp [Rows.uptoBulk]
  | map entries => simp [Rows.uptoBulk]
  | held h => simp [Rows.uptoBulk]
theorem Kin.int {P : Program} {t : TypeId} {k : IntKind} (ht : P.underlying t = some (.int k)) : Kin (Kd.int k) (fun n => (Lit.int k n).wf = true) (fun _ => 1) P t := by
  intro H enc w base spare held fuel cs x h _
  obtain ⟨n, rfl, _, hw⟩ := DataW.trod_int ht h
  exact ⟨n, rfl, hw, one_le _⟩
theorem Kin.bool {P : Program} {t : TypeId} (ht : P.underlying t = some .bool) : Kin Kd.bool (fun _ => True) (fun _ => 1) P t := by
  intro H enc w base spare held fuel cs x h _
  obtain ⟨b, rfl, _⟩ := DataW.trod_bool ht h
  exact ⟨b, rfl, trivial, one_le _⟩
theorem Kin.string {P : Program} {t : TypeId} (ht : P.underlying t = some .string) : Kin Kd.string (fun s => s.size ≤ 140737488351232) (fun s => s.size + 1) P t := by
  intro H enc w base spare held fuel cs x h hL
  obtain ⟨s, rfl, rfl, _⟩ := DataW.trod_string ht h
  refine ⟨s, rfl, hL _ (by rw [DataW.weights, List.mem_singleton]; exact (Array.length_toList).symm), ?_⟩
  show s.size + 1 ≤ _
  rw [Rows.uptoBulk, Array.length_toList]
  exact Nat.le_refl _
theorem bulk_sum {α H : Type} {bk : α → Nat} : ∀ (ys : List α) (D : Nat → DataW H), (∀ i y, ys[i]? = some y → bk y ≤ Rows.uptoBulk (D i)) → (ys.map bk).sum ≤ Rows.uptoBulkAll ((List.range ys.length).map D)
  | [], D, _ => Nat.zero_le _
  | y :: ys, D, h => by
    have h1 := h 0 y rfl
    have h2 := bulk_sum ys (fun i => D (i + 1)) (fun i z hz => h (i + 1) z (by simpa using hz))
    rw [List.map_cons, List.sum_cons, List.length_cons, List.range_succ_eq_map, List.map_cons, List.map_map, Rows.uptoBulkAll]
    exact Nat.add_le_add h1 h2
theorem list_of {α : Type} {Q : Nat → α → Prop} (n : Nat) (h : ∀ i, i < n → ∃ y, Q i y) : ∃ ys : List α, ys.length = n ∧ ∀ i y, ys[i]? = some y → Q i y := by
  induction n with
  | zero => exact ⟨[], rfl, fun i y hy => by simp at hy⟩
  | succ n ih =>
    obtain ⟨ys, hl, hq⟩ := ih (fun i hi => h i (by omega))
    obtain ⟨y, hy⟩ := h n (by omega)
    refine ⟨ys ++ [y], by rw [List.length_append, hl]; rfl, fun i z hz => ?_⟩
    rw [List.getElem?_append] at hz
    by_cases hi : i < ys.length
    · rw [if_pos hi] at hz; exact hq i z hz
    · rw [if_neg hi] at hz
      have hi2 : i - ys.length = 0 := by
        have := (List.getElem?_eq_some_iff.1 hz).1
        simp only [List.length_singleton] at this
        omega
      rw [hi2] at hz
      have : y = z := by simpa using hz
      subst this
      rwa [show i = n from by omega]
theorem Kin.slice {α : Type} {d : Kd α} {Wf : α → Prop} {P : Program} {t e : TypeId} {B : Nat} (ht : P.underlying t = some (.slice e)) (hs : P.cellsOf e = d.sz) {bk : α → Nat} (hB : P.bytesOf e = B) (hd : Kin d Wf bk P e) : Kin (Kd.slice e d) (fun l => l.length * B ≤ 140737488351232 ∧ ∀ x ∈ l, Wf x) (fun l => (l.map bk).sum + 1) P t := by
  intro H enc w base spare held fuel cs x h hL
  rcases Deep.open_slice ht h with ⟨rfl, _⟩ | ⟨a, len, cap, m, n, D, Pl, rfl, _, hl, hm, hmm, rfl, hi⟩
  · exact ⟨[], ⟨none, 0, rfl, Nat.le_refl _, rfl, Nat.zero_le _, fun h => absurd h (Nat.lt_irrefl 0)⟩, ⟨by rw [List.length_nil, Nat.zero_mul]; exact Nat.zero_le _, fun x hx => by cases hx⟩, one_le _⟩
  · have hlm : len ≤ m := by rw [hmm]; split <;> omega
    obtain ⟨ys, hyl, hys⟩ := list_of (Q := fun i y => ∃ c, c.length = d.sz ∧ d.K w y c ∧ (∀ j u, c[j]? = some u → w.cell? (a.add (i * d.sz + j)) = some u) ∧ Wf y ∧ bk y ≤ Rows.uptoBulk (D i)) len (fun i hil => by
      obtain ⟨cs', hc, ht'⟩ := hi i (by omega)
      obtain ⟨y, hK, hW, hb⟩ := hd enc w base spare held n cs' _ ht' (fun q hq => hL q (by
        rw [DataW.weights, ht]
        exact List.mem_cons_of_mem _ (List.mem_append.2 (Or.inl (weights_all hq (List.mem_map.2 ⟨i, List.mem_range.2 hil, rfl⟩))))))
      obtain ⟨_, hcl, hat⟩ := World.cells?_some hc
      rw [hs] at hc hcl hat
      refine ⟨y, cs', hcl, hK, fun j u hj => ?_, hW, hb⟩
      have hjl : j < d.sz := by have := (List.getElem?_eq_some_iff.1 hj).1; omega
      rw [← Deep.add_add, hat j hjl, hj])
    subst hyl
    refine ⟨ys, ⟨some a, cap, rfl, hl, rfl, ?_, fun _ => ⟨a, rfl, fun j p hj => ?_⟩⟩, ⟨?_, fun x hx => ?_⟩, ?_⟩
    · have : maxLen = 9223372036854775807 := rfl
      omega
    · obtain ⟨c, h1, h2, h3, _⟩ := hys j p hj
      exact ⟨c, h1, h2, h3⟩
    · have h1 := hL (((List.range ys.length).map D).length * P.bytesOf e + ((List.range (m - ys.length)).map fun j => D (ys.length + j)).length * P.bytesOf e) (by
        rw [DataW.weights, ht, ← Nat.add_mul]
        exact List.mem_cons_self ..)
      rw [hB, List.length_map, List.length_range] at h1
      exact Nat.le_trans (Nat.le_add_right _ _) h1
    · obtain ⟨i, hi, e⟩ := List.mem_iff_getElem.1 hx
      obtain ⟨_, _, _, _, h4, _⟩ := hys i x (by rw [List.getElem?_eq_getElem hi, e])
      exact h4
    · show _ ≤ Rows.uptoBulk (.slice _ _)
      rw [Rows.uptoBulk]
      have := bulk_sum (bk := bk) ys D (fun i y hy => by obtain ⟨_, _, _, _, _, h5⟩ := hys i y hy; exact h5)
      show (ys.map bk).sum + 1 ≤ _
      omega
/-- A field out of a struct's reading. -/
theorem field_of {α : Type} {d : Kd α} {Wf : α → Prop} {bk : α → Nat} {P : Program} {t : TypeId} (hd : Kin d Wf bk P t) {H : Type} {enc : TypeId × Value → H} {w : World} {base : Nat} {spare : Nat → Bool} {held : Bool} {n : Nat} {cs : List Value} {x : DataW H × List MemPlace} {parts : List (DataW H)} (i : Nat)
    (h : DataW.trod enc P w base spare held n t cs = some x) {u : TypeId} {fs : Array Field} (hu : P.underlying u = some (.struct fs)) (hL : Light P u (.agg parts)) (hf : (fs.toList.map (·.type))[i]? = some t) (hp : parts[i]? = some x.1) : ∃ y, d.K w y cs ∧ Wf y ∧ bk y ≤ Rows.uptoBulk x.1 :=
  hd enc w base spare held n cs _ h (hL.field hu hf hp)
end Go.Proofs.Ythfcafllcgjepaa.Reads
