import Derived.Test.YtncoakokdajibaaReedMessagesMsgRef
import Derived.Test.YtncoakokdajibaaReedMessagesF0
/- ReedMessages, over numbers: a message's words, and words' message, are the document's. (Where what comes in holds at most 1048576 values and letters.) -/
namespace Go.Proofs.Ytncoakokdajibaa.Pure
open Go.RowKit Go.Proofs.Ytncoakokdajibaa.Q Go.Proofs.YtncoakokdajibaaW.PrintWords Go.Proofs.YtncoakokdajibaaW.PrintLast Go.Proofs.YtncoakokdajibaaW.PrintMore Go.Proofs.Ytncoakokdajibaa.Gf Go.Proofs.Ytncoakokdajibaa.Sem

theorem sameTexts_l0 (l : List ByteArray) (hl : l.length ≤ 140737488355328) (e : Nat) : ∀ i : Nat, i + e = l.length → Ev (fun k => foghornlaw19_sameTexts.l0 k l l (i : Int)) true := by
  induction e with
  | zero =>
    intro i hi
    exact Ev.stepTo _ (fun k _ => by rw [foghornlaw19_sameTexts.l0, if_neg (by omega)]) (Ev.now _)
  | succ e ih =>
    intro i hi
    refine Ev.stepTo _ (fun k _ => by rw [foghornlaw19_sameTexts.l0, if_pos (by omega), if_pos (by omega), if_pos (by omega), if_pos rfl, wrap_id _ (by omega) (by omega), show ((i : Int) + 1) = ((i + 1 : Nat) : Int) from by omega]) ?_
    exact ih (i + 1) (by omega)
theorem sameTexts (l : List ByteArray) (hl : l.length ≤ 140737488355328) : Ev (fun k => foghornlaw19_sameTexts.f k l l) true := by
  refine Ev.congr (fun k => by rw [foghornlaw19_sameTexts.f, if_pos rfl]) ?_
  exact sameTexts_l0 l hl l.length 0 (Nat.zero_add _)
theorem ReedMessages_l0 (d : List F) (n r : Int) (e : Nat) : ∀ (i : Nat) (l : List ByteArray), i + e = l.length → l.length ≤ 140737488355328 → Ev (fun k => foghornlaw19_ReedMessages.l0 k (B d) n r l (wordsAns d n r).1 (i : Int)) true := by
  induction e with
  | zero =>
    intro i l hi hl
    refine Ev.stepTo _ (fun k _ => by rw [foghornlaw19_ReedMessages.l0, if_neg (by omega)]) ?_
    refine Ev.bind (words_any d n r) ?_
    refine Ev.bind (sameTexts _ (wordsAns_length d n r)) ?_
    exact Ev.now _
  | succ e ih =>
    intro i l hi hl
    refine Ev.stepTo _ (fun k _ => by rw [foghornlaw19_ReedMessages.l0, if_pos (by omega), if_pos (by omega), wrap_id _ (by omega) (by omega), show ((i : Int) + 1) = ((i + 1 : Nat) : Int) from by omega]) ?_
    exact ih (i + 1) _ (by rw [List.length_set]; omega) (by rw [List.length_set]; exact hl)
theorem sum_le (ws : List (List F)) : (ws.map List.length).sum + ws.length ≤ ((ws.map B).map (fun y_ : ByteArray => (y_.size + 1))).sum := by
  induction ws with
  | nil => exact Nat.le_refl _
  | cons w ws ih =>
    rw [List.map_cons, List.map_cons, List.map_cons, List.sum_cons, List.sum_cons, List.length_cons, B_size]
    omega
theorem ReedMessages : foghornlaw19_ReedMessages.Pure := by
  intro s n r l hs _ _ hl hk
  obtain ⟨d, rfl⟩ := B_of s
  obtain ⟨ws, rfl⟩ := list_B l
  have h1 := sum_le ws
  have hw : ws.length ≤ 1048576 := by omega
  have hm := message_any r ws (by omega)
  have hrm := rmessage_any r ws (by omega) (by omega)
  have hsl := wordsAns_length d n r
  refine Ev.rounds ?_
  refine Ev.congr (fun k => by rw [foghornlaw19_ReedMessages.f]) ?_
  refine Ev.bind (words_any d n r) ?_
  refine Ev.bind (rwords_any d n r) ?_
  refine Ev.congr (fun k => by rw [Option.bind_some, if_pos (by rw [List.length_map]; simp only [List.length_nil]; omega), Option.bind_some, List.nil_append]) ?_
  refine Ev.bind hm ?_
  refine Ev.bind hrm ?_
  refine Ev.bind (sameTexts _ hsl) ?_
  refine Ev.congr (fun k => by rw [if_pos rfl, if_pos rfl, if_pos rfl, if_pos rfl]) ?_
  refine Ev.bind (sameTexts _ (by rw [List.length_map]; omega)) ?_
  refine Ev.stepTo _ (fun k _ => by rw [foghornlaw19_ReedMessages.j0, if_neg (by decide)]) ?_
  exact ReedMessages_l0 d n r _ 0 _ (Nat.zero_add _) hsl
end Go.Proofs.Ytncoakokdajibaa.Pure
