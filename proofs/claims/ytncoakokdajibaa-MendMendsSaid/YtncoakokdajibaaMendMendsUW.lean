import Derived.Test.YtncoakokdajibaaMendMendsWMore
import Derived.Scope
import Derived.Test.YtncoakokdajibaaMendMendsWKept
import Derived.Test.YtncoakokdajibaaMendMendsWQPut
import Derived.Test.YtncoakokdajibaaMendMendsWApart
import Derived.Test.YtncoakokdajibaaMendMendsWFoot
/- A row of the call's own with a mark behind it: the slice is one shorter than the row; the last element is the mark. -/
namespace Go.Proofs.YtncoakokdajibaaW.PrintWords
open Go.RowKit Go.Proofs.YtncoakokdajibaaW Go.Proofs.YtncoakokdajibaaW.PrintWords Go.Proofs.YtncoakokdajibaaW.PrintLast Go.Proofs.YtncoakokdajibaaW.PrintMore
set_option linter.unusedVariables false
namespace Kd
def U {α : Type} (m : Kd α × α) (e : Nat) (w : World) (base : Nat) (ok : Nat → Prop) (v : Value) (xs : List α) : Prop :=
  ∃ A c, v = .slice A xs.length c ∧ m.1.R e w base ok (.slice A (xs.length + 1) c) (xs ++ [m.2])
theorem ob (A : Option Addr) (n n' c c' : Nat) : (Value.slice A n c).ownBlock = (Value.slice A n' c').ownBlock := by cases A <;> rfl
section
variable {α β : Type} {m : Kd α × α} {d' : Kd β} {e e' : Nat} {w w1 W : World} {base base' N g : Nat} {ok ok' oku : Nat → Prop} {S : Nat → Prop} {v u : Value} {xs : List α} {ys : List β} {o : Obj} {ys' : List α}
theorem U_mono (h : U m e w base ok v xs) (hok : ∀ k, ok k → ok' k) : U m e w base ok' v xs := let ⟨A, c, e, h⟩ := h; ⟨A, c, e, R_mono h hok⟩
theorem U_below (h : U m e w base ok v xs) (hb : Below w.heap.size w w1) : U m e w1 base ok v xs := let ⟨A, c, e, h⟩ := h; ⟨A, c, e, R_below h hb⟩
theorem U_alloc (h : U m e w base ok v xs) (o : Obj) : U m e (w.alloc o) base ok v xs := U_below h (below_alloc (Below.refl _ _) o)
theorem U_drew (h : U m e w base ok v xs) : U m e w.drew base ok v xs := U_below h (below_drew (Below.refl _ _))
theorem U_drewN (h : U m e w base ok v xs) (n : Nat) : U m e (w.drewN n) base ok v xs := U_below h (pw_below_drewN (Below.refl _ _) n)
theorem U_far (h : U m e w base ok v xs) {p : Addr} (hok : ∀ k, ok k → k ≠ p.block) (x : Value) : U m e (w.setCell p x) base ok v xs := let ⟨A, c, e, h⟩ := h; ⟨A, c, e, R_far h hok x⟩
theorem U_keptB (h : U m e W base ok v xs) (hk : Kept W w1 S) (hne : ∀ k, ok k → ¬ S k) : U m e w1 base (fun k => ok k ∧ (¬ S k ∧ k < W.heap.size)) v xs := let ⟨A, c, e, h⟩ := h; ⟨A, c, e, R_keptB h hk hne⟩
theorem U_old (h : U m e W base ok v xs) (hb : Below W.heap.size W w1) : U m e w1 base (fun k => ok k ∧ k < W.heap.size) v xs := let ⟨A, c, e, h⟩ := h; ⟨A, c, e, PrintMore.Kd.R_old h hb⟩
theorem U_types (h : U m e w base ok v xs) {g t : Nat} {cells : Array Value} (hb : w.heap[g]? = some (.cells cells t (0, 0))) (ht : ∀ q, q ∈ e :: m.1.E → q ≠ t) : U m e w base (fun k => ok k ∧ k ≠ g) v xs := let ⟨A, c, e, h⟩ := h; ⟨A, c, e, R_types h hb ht⟩
theorem U_over' (h : U m e W base ok u xs) (hty : ∀ k, v.ownBlock = some k → ∃ cells, HasC W k cells e') (ht : ∀ q, q ∈ e :: m.1.E → q ≠ e') (hg : W.grownBy w1 v.ownBlock) : U m e w1 base ok u xs := let ⟨A, c, e, h⟩ := h; ⟨A, c, e, R_over' h hty ht hg⟩
theorem U_elder' (h : U m e W base ok u xs) (hbase : ∀ k, v.ownBlock = some k → W.heap.size ≤ k) (hb : Below W.heap.size W w1) : U m e w1 base (fun k => ok k ∧ some k ≠ v.ownBlock) u xs := let ⟨A, c, e, h⟩ := h; ⟨A, c, e, R_elder' h hbase hb⟩
theorem U_told (h : U m e w1 base (fun k => ok k ∧ k < N) u xs) (hbase : ∀ k, v.ownBlock = some k → N ≤ k) : U m e w1 base (fun k => (ok k ∧ some k ≠ v.ownBlock) ∧ k < N) u xs := let ⟨A, c, e, h⟩ := h; ⟨A, c, e, PrintMore.Kd.R_told h hbase⟩
theorem U_lt (h : U m e w base ok v xs) : ∀ k, v.ownBlock = some k → k < w.heap.size := by
  obtain ⟨A, c, rfl, h⟩ := h
  rw [ob A xs.length (xs.length + 1) c c]
  exact R_lt h
theorem U_ne (h : U m e w base ok v xs) {t : Nat} {cells : Array Value} (hb : w.heap[g]? = some (.cells cells t (0, 0))) (ht : e ≠ t) : some g ≠ v.ownBlock := by
  obtain ⟨A, c, rfl, h⟩ := h
  rw [ob A xs.length (xs.length + 1) c c]
  exact R_ne h hb ht
theorem U_full {A : Option Addr} {n c : Nat} (h : U m e w base ok (.slice A n c) xs) : n = xs.length ∧ m.1.R e w base ok (.slice A (n + 1) c) (xs ++ [m.2]) := by
  obtain ⟨A', c', he, h⟩ := h
  injection he with h1 h2 h3
  subst h1; subst h2; subst h3
  exact ⟨rfl, h⟩
theorem U_reads' {A : Option Addr} {n c : Nat} (h : U m e w base ok (.slice A n c) xs) : n = xs.length ∧ n ≤ c ∧ m.1.C w A xs.length xs := by
  obtain ⟨rfl, h⟩ := U_full h
  obtain ⟨_, h2, h3⟩ := R_reads' h
  refine ⟨rfl, by omega, ?_⟩
  have h4 := C_take (m := xs.length) h3 (by rw [List.length_append]; omega)
  rwa [List.take_left] at h4
theorem U_R {A : Option Addr} {n c : Nat} (h : U m e w base ok (.slice A n c) xs) : m.1.R e w base ok (.slice A n c) xs := by
  obtain ⟨rfl, h⟩ := U_full h
  have := R_take (m := xs.length) h (by rw [List.length_append]; omega)
  rwa [List.take_left] at this
theorem U_form (h : U m e w base ok v xs) (hp : 0 < xs.length) : ∃ g cap, v = .slice (some ⟨g, 0, none⟩) xs.length cap ∧ base ≤ g ∧ g < w.heap.size ∧ ∃ cells, w.heap[g]? = some (.cells cells e (0, 0)) := by
  obtain ⟨A, c, rfl, h⟩ := h
  obtain ⟨g, cap, he, h1, h2, h3⟩ := R_form h (by rw [List.length_append]; simp)
  injection he with ha _ hc
  subst ha
  exact ⟨g, c, rfl, h1, h2, h3⟩
theorem U_of {A : Option Addr} {n c : Nat} {z : α} (h : m.1.R e w base ok (.slice A n c) xs) (hz : m.2 = z) (hx : xs = ys' ++ [z]) : U m e w base ok (.slice A ys'.length c) ys' := by
  obtain ⟨h1, _, _⟩ := R_reads' h
  subst hx
  subst hz
  rw [List.length_append] at h1
  simp only [List.length_cons, List.length_nil] at h1
  subst h1
  exact ⟨A, c, rfl, h⟩
end
section
variable {α : Type} {enc : α → Value} {h1 : ∀ x, (enc x).oneCell' = true} {e base g n cap : Nat} {ok : Nat → Prop} {W : World} {xs : List α} {z : α}
theorem U_celln (d : α) (h : U (scalar enc h1, z) e W base ok (.slice (some ⟨g, 0, none⟩) n cap) xs) (i : Int) (h0 : 0 ≤ i) (hi : i < n) : W.cell? ⟨g, i.toNat, none⟩ = some (enc (rdOf d xs i)) ∧ W.frozen? ⟨g, i.toNat, none⟩ = false := R_celln (h1 := h1) d (U_R h) i h0 hi
theorem U_putn (h : U (scalar enc h1, z) e W base ok (.slice (some ⟨g, 0, none⟩) n cap) xs) (i : Int) (h0 : 0 ≤ i) (hi : i < n) (x : α) : U (scalar enc h1, z) e (W.setCell ⟨g, i.toNat, none⟩ (enc x)) base ok (.slice (some ⟨g, 0, none⟩) n cap) (xs.set i.toNat x) := by
  obtain ⟨rfl, h⟩ := U_full h
  have h2 := R_putn (h1 := h1) h i x
  rw [List.set_append_left _ _ (by omega)] at h2
  exact ⟨_, _, by rw [List.length_set], by rw [List.length_set]; exact h2⟩
theorem U_putg (h : U (scalar enc h1, z) e W base ok (.slice (some ⟨g, 0, none⟩) n cap) xs) (i : Int) (h0 : 0 ≤ i) (hi : i < n) (x : α) : U (scalar enc h1, z) e (W.setCell ⟨g, i.toNat, none⟩ (enc x)) base ok (.slice (some ⟨g, 0, none⟩) n cap) (xs.set i.toNat x) ∧ W.grownBy (W.setCell ⟨g, i.toNat, none⟩ (enc x)) (some g) := by
  refine ⟨U_putn h i h0 hi x, ?_⟩
  obtain ⟨rfl, h⟩ := U_full h
  exact (R_putg (h1 := h1) h i x).2
end
section
variable {α : Type} {m : Kd α × α} {e base g n cap : Nat} {ok okp : Nat → Prop} {W : World} {xs : List α}
end
end Kd
theorem cut_more {P : Program} (t e : TypeId) (kh : IntKind) {i : TypeInfo} (ht : P.underlying t = some (.slice e)) (hi : P.info? e = some i) (A : Option Addr) (n c : Nat) (j : Int) (h0 : 0 ≤ j) (hc : j ≤ c) :
    ∀ W : World, (Instr.slice t (.slice A n c) none (some (.int kh j)) none).run P W = .ok (.slice A j.toNat c) W := by
  intro W
  have hel : P.elem t = e := by simp [Program.elem, ht]
  have hu : P.underlying t = some (.slice (P.elem t)) := by rw [hel]; exact ht
  have ha : (A.map fun x => x.add 0) = A := by cases A <;> simp [Addr.add]
  rw [run_slice_h W t A n c hu kh j h0 hc, hel]
  simp [sizeOf, typeInfo, hi, sliced, Result.andThen, ha]
theorem scope_ {P : Program} {c : Code} {Q : Exit → Act → World → Prop} {a : Act} {w : World} (hQ : ∀ l a w, ¬ Q (.goto l) a w) (h : c.wp P Q a w) : (Code.scope c).wp P Q a w := by
  refine wp_scope_straight (wp_mono h fun e a w hq => ?_)
  cases e with
  | goto l => exact hQ l a w hq
  | _ => exact hq
end Go.Proofs.YtncoakokdajibaaW.PrintWords
