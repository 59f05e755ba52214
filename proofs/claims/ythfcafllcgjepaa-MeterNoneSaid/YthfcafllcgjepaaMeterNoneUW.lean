import Derived.Test.YthfcafllcgjepaaMeterNoneWMore
import Derived.Scope
import Derived.Test.YthfcafllcgjepaaMeterNoneWKept
import Derived.Test.YthfcafllcgjepaaMeterNoneWQPut
import Derived.Test.YthfcafllcgjepaaMeterNoneWApart
import Derived.Test.YthfcafllcgjepaaMeterNoneWFoot
/- A row of the call's own with a mark behind it: the slice is one shorter than the row; the last element is the mark. -/
namespace Go.Proofs.YthfcafllcgjepaaW.PrintWords
open Go.RowKit Go.Proofs.YthfcafllcgjepaaW Go.Proofs.YthfcafllcgjepaaW.PrintWords Go.Proofs.YthfcafllcgjepaaW.PrintLast Go.Proofs.YthfcafllcgjepaaW.PrintMore
set_option linter.unusedVariables false
namespace Kd
def U {α : Type} (m : Kd α × α) (e : Nat) (w : World) (base : Nat) (ok : Nat → Prop) (v : Value) (xs : List α) : Prop :=
  ∃ A c, v = .slice A xs.length c ∧ m.1.R e w base ok (.slice A (xs.length + 1) c) (xs ++ [m.2])
theorem ob (A : Option Addr) (n n' c c' : Nat) : (Value.slice A n c).ownBlock = (Value.slice A n' c').ownBlock := by cases A <;> rfl
section
variable {α β : Type} {m : Kd α × α} {d' : Kd β} {e e' : Nat} {w w1 W : World} {base base' N g : Nat} {ok ok' oku : Nat → Prop} {S : Nat → Prop} {v u : Value} {xs : List α} {ys : List β} {o : Obj} {ys' : List α}
theorem U_slice (h : U m e w base ok v xs) : ∃ A c, v = .slice A xs.length c := let ⟨A, c, e, _⟩ := h; ⟨A, c, e⟩
theorem U_mono (h : U m e w base ok v xs) (hok : ∀ k, ok k → ok' k) : U m e w base ok' v xs := let ⟨A, c, e, h⟩ := h; ⟨A, c, e, R_mono h hok⟩
theorem U_below (h : U m e w base ok v xs) (hb : Below w.heap.size w w1) : U m e w1 base ok v xs := let ⟨A, c, e, h⟩ := h; ⟨A, c, e, R_below h hb⟩
theorem U_alloc (h : U m e w base ok v xs) (o : Obj) : U m e (w.alloc o) base ok v xs := U_below h (below_alloc (Below.refl _ _) o)
theorem U_drew (h : U m e w base ok v xs) : U m e w.drew base ok v xs := U_below h (below_drew (Below.refl _ _))
theorem U_drewN (h : U m e w base ok v xs) (n : Nat) : U m e (w.drewN n) base ok v xs := U_below h (pw_below_drewN (Below.refl _ _) n)
theorem U_at {n : Nat} {w' : World} (hq : w.drewN n = w') (h : U m e w base ok v xs) : U m e w' base ok v xs := by subst hq; exact U_drewN h n
theorem U_lower (h : U m e w base ok v xs) (hb : base' ≤ base) : U m e w base' ok v xs := let ⟨A, c, e, h⟩ := h; ⟨A, c, e, R_lower h hb⟩
theorem U_far (h : U m e w base ok v xs) {p : Addr} (hok : ∀ k, ok k → k ≠ p.block) (x : Value) : U m e (w.setCell p x) base ok v xs := let ⟨A, c, e, h⟩ := h; ⟨A, c, e, R_far h hok x⟩
theorem U_grown (h : U m e w base ok v xs) {row : Option Nat} (hg : w.grownBy w1 row) (hok : ∀ k, ok k → some k ≠ row) : U m e w1 base ok v xs := let ⟨A, c, e, h⟩ := h; ⟨A, c, e, R_grown h hg hok⟩
theorem U_keep (h : U m e w base ok v xs) (hk : KeepBut w w1 g none) (hok : ∀ k, ok k → k ≠ g) : U m e w1 base ok v xs := let ⟨A, c, e, h⟩ := h; ⟨A, c, e, R_keep h hk hok⟩
theorem U_keptB (h : U m e W base ok v xs) (hk : Kept W w1 S) (hne : ∀ k, ok k → ¬ S k) : U m e w1 base (fun k => ok k ∧ (¬ S k ∧ k < W.heap.size)) v xs := let ⟨A, c, e, h⟩ := h; ⟨A, c, e, R_keptB h hk hne⟩
theorem U_old (h : U m e W base ok v xs) (hb : Below W.heap.size W w1) : U m e w1 base (fun k => ok k ∧ k < W.heap.size) v xs := let ⟨A, c, e, h⟩ := h; ⟨A, c, e, PrintMore.Kd.R_old h hb⟩
theorem U_oldK (h : U m e W base (fun k => ok k ∧ k ≠ g) v xs) (hk : KeepBut W w1 g none) : U m e w1 base (fun k => ok k ∧ k < W.heap.size) v xs := let ⟨A, c, e, h⟩ := h; ⟨A, c, e, PrintMore.Kd.R_oldK h hk⟩
theorem U_elderB (h : U m e w base ok v xs) (a : Nat) (ha : w.heap.size ≤ a) : U m e w base (fun k => ok k ∧ k ≠ a) v xs := let ⟨A, c, e, h⟩ := h; ⟨A, c, e, R_elderB h a ha⟩
theorem U_newB (h : U m e w1 w.heap.size ok v xs) (hb : w.heap[g]? = some o) : U m e w1 w.heap.size (fun k => ok k ∧ k ≠ g) v xs := let ⟨A, c, e, h⟩ := h; ⟨A, c, e, R_newB h hb⟩
theorem U_newM {M : Nat → Prop} (h : U m e w1 W.heap.size ok v xs) (hle : w.heap.size ≤ W.heap.size) (hM : ∀ k, w.heap.size ≤ k → M k) : U m e w1 W.heap.size (fun k => M k ∧ ok k) v xs := let ⟨A, c, e, h⟩ := h; ⟨A, c, e, R_newM h hle hM⟩
theorem U_types (h : U m e w base ok v xs) {g t : Nat} {cells : Array Value} (hb : w.heap[g]? = some (.cells cells t (0, 0))) (ht : ∀ q, q ∈ e :: m.1.E → q ≠ t) : U m e w base (fun k => ok k ∧ k ≠ g) v xs := let ⟨A, c, e, h⟩ := h; ⟨A, c, e, R_types h hb ht⟩
theorem U_set (h : U m e w base ok v xs) {g t : Nat} {cells : Array Value} (hb : w.heap[g]? = some (.cells cells t (0, 0))) (ht : ∀ q, q ∈ e :: m.1.E → q ≠ t) (j : Nat) (x : Value) : U m e (w.setCell ⟨g, j, none⟩ x) base ok v xs := let ⟨A, c, e, h⟩ := h; ⟨A, c, e, R_set h hb ht j x⟩
theorem U_over' (h : U m e W base ok u xs) (hty : ∀ k, v.ownBlock = some k → ∃ cells, HasC W k cells e') (ht : ∀ q, q ∈ e :: m.1.E → q ≠ e') (hg : W.grownBy w1 v.ownBlock) : U m e w1 base ok u xs := let ⟨A, c, e, h⟩ := h; ⟨A, c, e, R_over' h hty ht hg⟩
theorem U_apart' (h : U m e W base ok u xs) (hty : ∀ k, v.ownBlock = some k → ∃ cells, HasC W k cells e') (ht : ∀ q, q ∈ e :: m.1.E → q ≠ e') : U m e W base (fun k => ok k ∧ some k ≠ v.ownBlock) u xs := let ⟨A, c, e, h⟩ := h; ⟨A, c, e, R_apart' h hty ht⟩
theorem U_elder' (h : U m e W base ok u xs) (hbase : ∀ k, v.ownBlock = some k → W.heap.size ≤ k) (hb : Below W.heap.size W w1) : U m e w1 base (fun k => ok k ∧ some k ≠ v.ownBlock) u xs := let ⟨A, c, e, h⟩ := h; ⟨A, c, e, R_elder' h hbase hb⟩
theorem U_new' (h : U m e w1 W.heap.size ok v xs) (hlt : ∀ k, u.ownBlock = some k → k < W.heap.size) : U m e w1 W.heap.size (fun k => ok k ∧ some k ≠ u.ownBlock) v xs := let ⟨A, c, e, h⟩ := h; ⟨A, c, e, R_new' h hlt⟩
theorem U_told (h : U m e w1 base (fun k => ok k ∧ k < N) u xs) (hbase : ∀ k, v.ownBlock = some k → N ≤ k) : U m e w1 base (fun k => (ok k ∧ some k ≠ v.ownBlock) ∧ k < N) u xs := let ⟨A, c, e, h⟩ := h; ⟨A, c, e, PrintMore.Kd.R_told h hbase⟩
theorem U_tight (hE : m.1.E = []) (h : U m e w base ok v xs) : U m e w base (fun k => some k = v.ownBlock) v xs := by
  obtain ⟨A, c, rfl, h⟩ := h
  exact ⟨A, c, rfl, R_mono (R_tight hE h) (fun k hk => hk.trans (ob ..))⟩
theorem U_away (h : U m e w base ok v xs) (hok : ∀ k, ok k → k ≠ g) : some g ≠ v.ownBlock := by
  obtain ⟨A, c, rfl, h⟩ := h
  rw [ob A xs.length (xs.length + 1) c c]
  exact R_away h hok
theorem U_base (h : U m e w base ok v xs) : ∀ k, v.ownBlock = some k → base ≤ k := by
  obtain ⟨A, c, rfl, h⟩ := h
  rw [ob A xs.length (xs.length + 1) c c]
  exact R_base h
theorem U_lt (h : U m e w base ok v xs) : ∀ k, v.ownBlock = some k → k < w.heap.size := by
  obtain ⟨A, c, rfl, h⟩ := h
  rw [ob A xs.length (xs.length + 1) c c]
  exact R_lt h
theorem U_ne (h : U m e w base ok v xs) {t : Nat} {cells : Array Value} (hb : w.heap[g]? = some (.cells cells t (0, 0))) (ht : e ≠ t) : some g ≠ v.ownBlock := by
  obtain ⟨A, c, rfl, h⟩ := h
  rw [ob A xs.length (xs.length + 1) c c]
  exact R_ne h hb ht
theorem U_typed (h : U m e w base ok v xs) : ∀ k, v.ownBlock = some k → ∃ cells, HasC w k cells e := by
  obtain ⟨A, c, rfl, h⟩ := h
  rw [ob A xs.length (xs.length + 1) c c]
  exact R_typed h
theorem U_ok (h : U m e w base ok v xs) : ∀ k, v.ownBlock = some k → ok k := by
  obtain ⟨A, c, rfl, h⟩ := h
  rw [ob A xs.length (xs.length + 1) c c]
  exact h.1
theorem U_full {A : Option Addr} {n c : Nat} (h : U m e w base ok (.slice A n c) xs) : n = xs.length ∧ m.1.R e w base ok (.slice A (n + 1) c) (xs ++ [m.2]) := by
  obtain ⟨A', c', he, h⟩ := h
  injection he with h1 h2 h3
  subst h1; subst h2; subst h3
  exact ⟨rfl, h⟩
theorem U_reads' {A : Option Addr} {n c : Nat} (h : U m e w base ok (.slice A n c) xs) : n = xs.length ∧ n ≤ c ∧ m.1.C w A xs.length xs := by
  obtain ⟨rfl, h⟩ := U_full h
  obtain ⟨_, h2, h3⟩ := R_reads' h
  refine ⟨rfl, by omega, ?_⟩
  have h4 := C_take (m := xs.length) h3 (by rw [List.length_append]; omega)
  rwa [List.take_left] at h4
theorem U_R {A : Option Addr} {n c : Nat} (h : U m e w base ok (.slice A n c) xs) : m.1.R e w base ok (.slice A n c) xs := by
  obtain ⟨rfl, h⟩ := U_full h
  have := R_take (m := xs.length) h (by rw [List.length_append]; omega)
  rwa [List.take_left] at this
theorem U_form (h : U m e w base ok v xs) (hp : 0 < xs.length) : ∃ g cap, v = .slice (some ⟨g, 0, none⟩) xs.length cap ∧ base ≤ g ∧ g < w.heap.size ∧ ∃ cells, w.heap[g]? = some (.cells cells e (0, 0)) := by
  obtain ⟨A, c, rfl, h⟩ := h
  obtain ⟨g, cap, he, h1, h2, h3⟩ := R_form h (by rw [List.length_append]; simp)
  injection he with ha _ hc
  subst ha
  exact ⟨g, c, rfl, h1, h2, h3⟩
theorem U_of {A : Option Addr} {n c : Nat} {z : α} (h : m.1.R e w base ok (.slice A n c) xs) (hz : m.2 = z) (hx : xs = ys' ++ [z]) : U m e w base ok (.slice A ys'.length c) ys' := by
  obtain ⟨h1, _, _⟩ := R_reads' h
  subst hx
  subst hz
  rw [List.length_append] at h1
  simp only [List.length_cons, List.length_nil] at h1
  subst h1
  exact ⟨A, c, rfl, h⟩
theorem C_kept_ownU {A : Option Addr} {n c : Nat} (h : U m e W base ok (.slice A n c) xs) (hok : ∀ k, ok k → ¬ S k) : ∀ W', Kept W W' S → m.1.C W' A n xs := C_kept_own (U_R h) hok
end
section
variable {α : Type} {enc : α → Value} {h1 : ∀ x, (enc x).oneCell' = true} {e base g n cap : Nat} {ok : Nat → Prop} {W : World} {xs : List α} {z : α}
theorem U_celln (d : α) (h : U (scalar enc h1, z) e W base ok (.slice (some ⟨g, 0, none⟩) n cap) xs) (i : Int) (h0 : 0 ≤ i) (hi : i < n) : W.cell? ⟨g, i.toNat, none⟩ = some (enc (rdOf d xs i)) ∧ W.frozen? ⟨g, i.toNat, none⟩ = false := R_celln (h1 := h1) d (U_R h) i h0 hi
theorem U_putn (h : U (scalar enc h1, z) e W base ok (.slice (some ⟨g, 0, none⟩) n cap) xs) (i : Int) (h0 : 0 ≤ i) (hi : i < n) (x : α) : U (scalar enc h1, z) e (W.setCell ⟨g, i.toNat, none⟩ (enc x)) base ok (.slice (some ⟨g, 0, none⟩) n cap) (xs.set i.toNat x) := by
  obtain ⟨rfl, h⟩ := U_full h
  have h2 := R_putn (h1 := h1) h i x
  rw [List.set_append_left _ _ (by omega)] at h2
  exact ⟨_, _, by rw [List.length_set], by rw [List.length_set]; exact h2⟩
theorem U_putg (h : U (scalar enc h1, z) e W base ok (.slice (some ⟨g, 0, none⟩) n cap) xs) (i : Int) (h0 : 0 ≤ i) (hi : i < n) (x : α) : U (scalar enc h1, z) e (W.setCell ⟨g, i.toNat, none⟩ (enc x)) base ok (.slice (some ⟨g, 0, none⟩) n cap) (xs.set i.toNat x) ∧ W.grownBy (W.setCell ⟨g, i.toNat, none⟩ (enc x)) (some g) := by
  refine ⟨U_putn h i h0 hi x, ?_⟩
  obtain ⟨rfl, h⟩ := U_full h
  exact (R_putg (h1 := h1) h i x).2
end
section
variable {α : Type} {m : Kd α × α} {e base g n cap : Nat} {ok okp : Nat → Prop} {W : World} {xs : List α}
theorem U_elem (h : U m e W base ok (.slice (some ⟨g, 0, none⟩) n cap) xs) (z : α) (i : Int) (h0 : 0 ≤ i) (h1 : i < n) :
    ∃ c, c.length = m.1.sz ∧ m.1.M W base (fun k => ok k ∧ k ≠ g) (xs.getD i.toNat z) c ∧ (∀ j u, c[j]? = some u → W.cell? ⟨g, i.toNat * m.1.sz + j, none⟩ = some u) ∧ ∀ j, W.frozen? ⟨g, i.toNat * m.1.sz + j, none⟩ = false := R_elem (U_R h) z i h0 h1
theorem U_seg (h : U m e W base ok (.slice (some ⟨g, 0, none⟩) n cap) xs) (i : Int) (h0 : 0 ≤ i) (h1 : i < n) {c seg : List Value} {j : Nat} (hcl : c.length = m.1.sz) (hcc : ∀ j u, c[j]? = some u → W.cell? ⟨g, i.toNat * m.1.sz + j, none⟩ = some u)
    (hj : j + seg.length ≤ m.1.sz) {x' : α} (hM : m.1.M W base okp x' (c.take j ++ seg ++ c.drop (j + seg.length))) (hokp : ∀ k, okp k → ok k ∧ k ≠ g) :
    U m e (W.setCells g (i.toNat * m.1.sz + j) seg) base ok (.slice (some ⟨g, 0, none⟩) n cap) (xs.set i.toNat x') ∧ W.grownBy (W.setCells g (i.toNat * m.1.sz + j) seg) (some g) := by
  obtain ⟨rfl, h⟩ := U_full h
  have h2 := R_seg h i h0 (by omega) hcl hcc hj hM hokp
  rw [List.set_append_left _ _ (by omega)] at h2
  exact ⟨⟨_, _, by rw [List.length_set], by rw [List.length_set]; exact h2.1⟩, h2.2⟩
end
theorem U_mark_bool {w : World} {e base n c : Nat} {ok : Nat → Prop} {A : Option Addr} {xs : List Bool} {z : Bool} (h : U (Kd.bool, z) e w base ok (.slice A n c) xs) : ∃ ad c', Value.slice A xs.length c = .slice (some ad) xs.length c' ∧ xs.length + 1 ≤ c' ∧ w.cell? (ad.add xs.length) = some (.bool z) := by
  obtain ⟨rfl, h⟩ := U_full h
  obtain ⟨_, h2, h3⟩ := R_reads' h
  obtain ⟨ad, rfl, hx⟩ := at_bool h3 (xs.length : Int) (by omega) (by omega)
  refine ⟨ad, c, rfl, h2, ?_⟩
  rw [Int.toNat_natCast] at hx
  rw [hx]
  unfold rdOf
  simp
end Kd
theorem cut_more {P : Program} (t e : TypeId) (kh : IntKind) {i : TypeInfo} (ht : P.underlying t = some (.slice e)) (hi : P.info? e = some i) (A : Option Addr) (n c : Nat) (j : Int) (h0 : 0 ≤ j) (hc : j ≤ c) :
    ∀ W : World, (Instr.slice t (.slice A n c) none (some (.int kh j)) none).run P W = .ok (.slice A j.toNat c) W := by
  intro W
  have hel : P.elem t = e := by simp [Program.elem, ht]
  have hu : P.underlying t = some (.slice (P.elem t)) := by rw [hel]; exact ht
  have ha : (A.map fun x => x.add 0) = A := by cases A <;> simp [Addr.add]
  rw [run_slice_h W t A n c hu kh j h0 hc, hel]
  simp [sizeOf, typeInfo, hi, sliced, Result.andThen, ha]
theorem scope_ {P : Program} {c : Code} {Q : Exit → Act → World → Prop} {a : Act} {w : World} (hQ : ∀ l a w, ¬ Q (.goto l) a w) (h : c.wp P Q a w) : (Code.scope c).wp P Q a w := by
  refine wp_scope_straight (wp_mono h fun e a w hq => ?_)
  cases e with
  | goto l => exact hQ l a w hq
  | _ => exact hq
end Go.Proofs.YthfcafllcgjepaaW.PrintWords
