import Derived.Test.YtncoakokdajibaaReedMessagesEncRun
import Derived.Test.YtncoakokdajibaaReedMessagesF0
/- The program's words of a message, and the message of words. -/
namespace Go.Proofs.Ytncoakokdajibaa.Sem
open Go.RowKit Go.Proofs.Ytncoakokdajibaa.Q Go.Proofs.YtncoakokdajibaaW.PrintWords Go.Proofs.YtncoakokdajibaaW.PrintLast Go.Proofs.YtncoakokdajibaaW.PrintMore Go.Proofs.Ytncoakokdajibaa.Gf

theorem mn_min' (a b : Nat) : mn (a : Int) (b : Int) = ((min a b : Nat) : Int) := by
  unfold mn
  by_cases h : (b : Int) < a
  · rw [if_pos h, Nat.min_eq_right (by omega)]
  · rw [if_neg h, Nat.min_eq_left (by omega)]
theorem take_min' {α : Type} (l : List α) (m : Nat) : l.take (min m l.length) = l.take m := by
  by_cases h : l.length ≤ m
  · rw [Nat.min_eq_right h, List.take_length, List.take_of_length_le h]
  · rw [Nat.min_eq_left (by omega)]
/-- The pieces of a message, of m bytes each (the last one may be shorter). -/
def pieces (m : Nat) : Nat → List F → List (List F)
  | 0, _ => []
  | _ + 1, [] => []
  | e + 1, a :: d => (a :: d).take m :: pieces m e ((a :: d).drop m)
theorem pieces_nil (m e : Nat) : pieces m e [] = [] := by cases e <;> rfl
theorem pieces_ne (m e : Nat) {d : List F} (h : d ≠ []) : pieces m (e + 1) d = d.take m :: pieces m e (d.drop m) := by
  cases d with
  | nil => exact absurd rfl h
  | cons a d => rfl
theorem pieces_flat (m : Nat) (hm : 0 < m) : ∀ (e : Nat) (d : List F), d.length ≤ e → (pieces m e d).flatten = d
  | 0, d, h => by rw [List.eq_nil_of_length_eq_zero (Nat.le_zero.1 h)]; rfl
  | e + 1, [], _ => rfl
  | e + 1, a :: d, h => by
    rw [pieces_ne m e (by simp), List.flatten_cons, pieces_flat m hm e _ (by rw [List.length_drop]; have : (a :: d).length ≤ e + 1 := h; omega), List.take_append_drop]
theorem pieces_each (m : Nat) (hm : 0 < m) : ∀ (e : Nat) (d : List F), ∀ p ∈ pieces m e d, p ≠ [] ∧ p.length ≤ m
  | 0, d, p, h => by simp [pieces] at h
  | e + 1, [], p, h => by simp [pieces] at h
  | e + 1, a :: d, p, h => by
    rw [pieces_ne m e (by simp), List.mem_cons] at h
    rcases h with rfl | h
    · refine ⟨List.length_pos_iff.1 ?_, ?_⟩
      · rw [List.length_take]; have : (a :: d).length = d.length + 1 := rfl; omega
      · rw [List.length_take]; omega
    · exact pieces_each m hm e _ p h
theorem pieces_length (m : Nat) (hm : 0 < m) : ∀ (e : Nat) (d : List F), d.length ≤ e → (pieces m e d).length = (d.length + m - 1) / m
  | 0, d, h => by
    rw [List.eq_nil_of_length_eq_zero (Nat.le_zero.1 h)]
    show 0 = (0 + m - 1) / m
    rw [Nat.div_eq_of_lt (by omega)]
  | e + 1, [], _ => by
    show 0 = (0 + m - 1) / m
    rw [Nat.div_eq_of_lt (by omega)]
  | e + 1, a :: d, h => by
    have h' : d.length ≤ e := by have : (a :: d).length ≤ e + 1 := h; simpa using this
    rw [pieces_ne m e (by simp), List.length_cons, pieces_length m hm e _ (by rw [List.length_drop, List.length_cons]; omega), List.length_drop, List.length_cons]
    by_cases c : d.length + 1 ≤ m
    · rw [show d.length + 1 - m + m - 1 = m - 1 from by omega, Nat.div_eq_of_lt (by omega)]
      rw [show d.length + 1 + m - 1 = d.length + m from by omega, Nat.add_div_right _ hm, Nat.div_eq_of_lt (by omega)]
    · rw [show d.length + 1 + m - 1 = (d.length + 1 - m + m - 1) + m from by omega, Nat.add_div_right _ hm]
theorem pieces_count (m : Nat) (hm : 0 < m) : ∀ (e : Nat) (d : List F), (pieces m e d).length ≤ d.length
  | 0, d => Nat.zero_le _
  | e + 1, [] => Nat.le_refl _
  | e + 1, a :: d => by
    rw [pieces_ne m e (by simp), List.length_cons]
    have := pieces_count m hm e ((a :: d).drop m)
    rw [List.length_drop] at this
    have h : (a :: d).length = d.length + 1 := rfl
    omega
/-- The codeword of a piece. -/
def cw (r : Int) (p : List F) : ByteArray := B (p ++ chk r.toNat p)
theorem words_l0 (n r : Int) (h : Fits n r) (e : Nat) : ∀ (d : List F) (acc : List ByteArray), d.length ≤ e → acc.length + d.length < 8796093022208 →
    Ev (fun k => reed_Words.l0 k (B d) n r acc) (acc ++ (pieces (n - r).toNat e d).map (cw r), 0) := by
  have hb := h.bounds
  have hw : wrap64 (n - r) = ((n - r).toNat : Int) := by rw [wrap_id _ (by omega) (by omega)]; omega
  induction e with
  | zero =>
    intro d acc hd _
    have : d = [] := List.eq_nil_of_length_eq_zero (by omega)
    subst this
    refine Ev.stepTo _ (fun k _ => by rw [reed_Words.l0, if_pos (B_empty.2 rfl)]) ?_
    show Ev _ (acc ++ [], 0)
    rw [List.append_nil]
    exact Ev.now _
  | succ e ih =>
    intro d acc hd hl
    by_cases hn : d = []
    · subst hn
      refine Ev.stepTo _ (fun k _ => by rw [reed_Words.l0, if_pos (B_empty.2 rfl)]) ?_
      show Ev _ (acc ++ [], 0)
      rw [List.append_nil]
      exact Ev.now _
    · have hp := List.length_pos_iff.2 hn
      refine Ev.stepTo _ (fun k _ => by rw [reed_Words.l0, if_neg (fun e => hn (B_empty.1 e)), hw, toNat_len, mn_min', if_pos (by omega), if_pos (by omega), Int.toNat_natCast, B_take, take_min', B_size, B_extract, List.take_length]) ?_
      have hdr : d.drop (min (n - r).toNat d.length) = d.drop (n - r).toNat := by
        by_cases c : (n - r).toNat ≤ d.length
        · rw [Nat.min_eq_left c]
        · rw [Nat.min_eq_right (by omega), List.drop_length, List.drop_of_length_le (by omega)]
      rw [hdr]
      have hf : Fits ((d.take (n - r).toNat).length + r) r := ⟨h.1, by rw [List.length_take]; omega, by rw [List.length_take]; omega⟩
      refine Ev.bind (encode_ev _ r hf (List.length_pos_iff.1 (by rw [List.length_take]; omega))) ?_
      refine Ev.congr (fun k => by rw [if_pos (by omega)]) ?_
      have := ih (d.drop (n - r).toNat) (acc ++ [cw r (d.take (n - r).toNat)]) (by rw [List.length_drop]; omega) (by rw [List.length_append, List.length_drop]; simp only [List.length_cons, List.length_nil]; omega)
      rw [List.append_assoc] at this
      rw [pieces_ne _ _ hn]
      exact this
theorem words_ev (d : List F) (n r : Int) (h : Fits n r) (hd : d.length ≤ 32768) : Ev (fun k => reed_Words.f k (B d) n r) ((pieces (n - r).toNat d.length d).map (cw r), 0) := by
  refine Ev.congr (fun k => by rw [reed_Words.f, check_fits h, Option.bind_some, if_pos rfl, toNat_len, decide_eq_false (show ¬ ((d.length : Int) > 32768) from by omega)]) ?_
  refine Ev.stepTo _ (fun k _ => by rw [reed_Words.j0, if_neg (by decide)]) ?_
  exact words_l0 n r h d.length d [] (Nat.le_refl _) (by simp only [List.length_nil]; omega)
theorem words_long (d : List F) (n r : Int) (h : Fits n r) (hd : 32768 < d.length) : Ev (fun k => reed_Words.f k (B d) n r) ([], 1) := by
  refine Ev.congr (fun k => by rw [reed_Words.f, check_fits h, Option.bind_some, if_pos rfl, toNat_len, decide_eq_true (show ((d.length : Int) > 32768) from by omega)]) ?_
  exact Ev.stepTo _ (fun k _ => by rw [reed_Words.j0, if_pos rfl]) (Ev.now _)
/-! the message -/
theorem msgRun_append {α : Type} (step : α → ByteArray → Option (α × Int)) (v : List ByteArray) : ∀ (u : List ByteArray) (a : α), msgRun step a (u ++ v) = (msgRun step a u).bind (fun q => if q.2 = 0 then msgRun step q.1 v else some q)
  | [], a => rfl
  | s :: u, a => by
    show msgRun step a (s :: (u ++ v)) = _
    rw [msgRun, msgRun]
    cases hs : step a s with
    | none => rfl
    | some q =>
      show (if q.2 = 0 then msgRun step q.1 (u ++ v) else some q) = (if q.2 = 0 then msgRun step q.1 u else some q).bind (fun q => if q.2 = 0 then msgRun step q.1 v else some q)
      by_cases c : q.2 = 0
      · rw [if_pos c, if_pos c]; exact msgRun_append step v u q.1
      · rw [if_neg c, if_neg c]
        show some q = if q.2 = 0 then _ else some q
        rw [if_neg c]
/-- Pieces that fit beside r checks. -/
def Good (r : Int) (ps : List (List F)) : Prop := ∀ p ∈ ps, p ≠ [] ∧ Fits (p.length + r) r
theorem cw_size {r : Int} {p : List F} (h : 2 ≤ r) : ((cw r p).size : Int) = p.length + r := by
  unfold cw
  rw [B_size, List.length_append, chk_length _ (by omega)]
  omega
theorem step1 {r : Int} (ps : List (List F)) : Good r ps → ∀ (s : Nat), s + ps.flatten.length ≤ 32768 → msgRun (msgStep1 r) (s : Int) (ps.map (cw r)) = some (((s + ps.flatten.length : Nat) : Int), 0) := by
  induction ps with
  | nil => intro _ s _; rfl
  | cons p ps ih =>
    intro h s hs
    obtain ⟨hp, hf⟩ := h p (List.mem_cons_self ..)
    have hb := hf.bounds
    rw [List.flatten_cons, List.length_append] at hs ⊢
    have h1 : msgStep1 r (s : Int) (cw r p) = some (((s + p.length : Nat) : Int), 0) := by
      unfold msgStep1
      rw [cw_size (by omega), check_fits hf, Option.map_some]
      have e : msgSum r (s : Int) (cw r p) = ((s + p.length : Nat) : Int) := by
        unfold msgSum
        rw [cw_size (by omega), wrap_id ((p.length : Int) + r - r) (by omega) (by omega), wrap_id _ (by omega) (by omega)]
        omega
      rw [e]
      unfold msgTold
      rw [if_pos rfl, if_neg (by omega)]
    rw [List.map_cons, msgRun, h1, Option.bind_some, if_pos rfl, ih (fun q hq => h q (List.mem_cons_of_mem _ hq)) (s + p.length) (by omega), Nat.add_assoc]
theorem step1z {r : Int} (ps : List (List F)) (h : Good r ps) (hs : ps.flatten.length ≤ 32768) : msgRun (msgStep1 r) 0 (ps.map (cw r)) = some ((ps.flatten.length : Int), 0) := by
  have := step1 ps h 0 (by omega)
  rwa [Nat.zero_add] at this
def u8s (d : List F) : List UInt8 := d.map (fun a => UInt8.ofNat a.val)
theorem step2 {r : Int} (ps : List (List F)) : Good r ps → ∀ (bs : List UInt8), bs.length + ps.flatten.length ≤ 140737488355328 → Ev (fun k => msgRun (msgStep2 k r) bs (ps.map (cw r))) (bs ++ u8s ps.flatten, 0) := by
  induction ps with
  | nil =>
    intro _ bs _
    show Ev (fun _ => some (bs, 0)) (bs ++ [], 0)
    rw [List.append_nil]
    exact Ev.now _
  | cons p ps ih =>
    intro h bs hs
    obtain ⟨hp, hf⟩ := h p (List.mem_cons_self ..)
    have hb := hf.bounds
    rw [List.flatten_cons, List.length_append] at hs
    have hl : (p ++ chk r.toNat p).length = p.length + r.toNat := by rw [List.length_append, chk_length _ (by omega)]
    have hd := data_ev (p ++ chk r.toNat p) r (by rw [hl]; have : ((p.length + r.toNat : Nat) : Int) = p.length + r := by omega
                                                  rw [this]; exact hf)
    rw [(wholeB_iff _ _).2 (chk_code _ (by omega) p), if_pos rfl, hl, Nat.add_sub_cancel, List.take_left] at hd
    refine Ev.congr (fun k => by rw [List.map_cons, msgRun]) ?_
    refine Ev.bind (a := (bs ++ u8s p, (0 : Int))) ?_ ?_
    · refine Ev.congr (fun k => by rw [msgStep2]) ?_
      refine Ev.bind hd ?_
      refine Ev.congr (fun k => by rw [if_pos (by show bs.length + (B p).size ≤ _; rw [B_size]; omega)]) ?_
      show Ev (fun _ => some (bs ++ (B p).data.toList, (0 : Int))) _
      rw [B_data]
      exact Ev.now _
    · refine Ev.congr (fun k => by rw [if_pos rfl]) ?_
      have := ih (fun q hq => h q (List.mem_cons_of_mem _ hq)) (bs ++ u8s p) (by rw [List.length_append]; unfold u8s; rw [List.length_map]; omega)
      rw [List.append_assoc] at this
      have e : u8s (p :: ps).flatten = u8s p ++ u8s ps.flatten := by rw [List.flatten_cons]; unfold u8s; rw [List.map_append]
      rw [e]
      exact this
theorem message_ev {r : Int} (hr : isChecks r = true) (ps : List (List F)) (h : Good r ps) (hl : ps.length ≤ 32768) (hs : ps.flatten.length ≤ 32768) : Ev (fun k => reed_Message.f k (ps.map (cw r)) r) (B ps.flatten, 0) := by
  refine Ev.congr (fun k => by rw [reed_Message.f, if_pos (by rw [List.length_map]; omega), checks, Option.bind_some, hr, if_pos rfl, step1z ps h hs, Option.bind_some, if_pos rfl]) ?_
  refine Ev.bind (step2 ps h [] (by simp only [List.length_nil]; omega)) ?_
  refine Ev.congr (fun k => by rw [if_pos rfl]) ?_
  have e : (⟨(([] : List UInt8) ++ u8s ps.flatten).toArray⟩ : ByteArray) = B ps.flatten := B_ext (by rw [B_data]; rfl)
  rw [e]
  exact Ev.now _
theorem good_pieces {n r : Int} (h : Fits n r) (e : Nat) (d : List F) : Good r (pieces (n - r).toNat e d) := fun p hp => by
  have hb := h.bounds
  obtain ⟨h1, h2⟩ := pieces_each (n - r).toNat (by omega) e d p hp
  have := List.length_pos_iff.2 h1
  exact ⟨h1, h.1, by omega, by omega⟩
theorem message_words {n r : Int} (h : Fits n r) (d : List F) (hd : d.length ≤ 32768) : Ev (fun k => reed_Message.f k ((pieces (n - r).toNat d.length d).map (cw r)) r) (B d, 0) := by
  have hb := h.bounds
  have hfl := pieces_flat (n - r).toNat (by omega) d.length d (Nat.le_refl _)
  have := message_ev h.1 (pieces (n - r).toNat d.length d) (good_pieces h _ d) (Nat.le_trans (pieces_count _ (by omega) _ _) hd) (by rw [hfl]; exact hd)
  rwa [hfl] at this
end Go.Proofs.Ytncoakokdajibaa.Sem
