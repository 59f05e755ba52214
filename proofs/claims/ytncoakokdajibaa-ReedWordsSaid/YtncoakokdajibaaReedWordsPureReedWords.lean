import Derived.Test.YtncoakokdajibaaReedWordsRefReed
import Derived.Test.YtncoakokdajibaaReedWordsFit19
import Derived.Test.YtncoakokdajibaaReedWordsF0
/- ReedWords, over numbers: any data, any word: codewords, syndromes, data and distances are the document's. -/
namespace Go.Proofs.Ytncoakokdajibaa.Pure
open Go.RowKit Go.Proofs.Ytncoakokdajibaa.Q Go.Proofs.YtncoakokdajibaaW.PrintWords Go.Proofs.YtncoakokdajibaaW.PrintLast Go.Proofs.YtncoakokdajibaaW.PrintMore Go.Proofs.Ytncoakokdajibaa.Gf Go.Proofs.Ytncoakokdajibaa.Sem

theorem ReedWords_l0 (w : ByteArray) (r : Int) (s0 : List Int × Int) (n e : Int) (hs : Ev (fun k => reed_Syndromes.f k w r) s0) (hl : s0.1.length < 65536) (d : Nat) : ∀ (i : Nat) (l : List Int), i + d = l.length → l.length < 65536 →
    Ev (fun k => foghornlaw19_ReedWords.l0 k w r e e l s0.1 n n (i : Int)) true := by
  induction d with
  | zero =>
    intro i l hi _
    refine Ev.stepTo _ (fun k _ => by rw [foghornlaw19_ReedWords.l0, if_neg (by omega)]) ?_
    refine Ev.bind hs ?_
    refine Ev.congr (fun k => by rw [if_pos rfl, if_pos rfl]) ?_
    exact Ev.bind (same s0.1 (by omega)) (Ev.now _)
  | succ d ih =>
    intro i l hi hl2
    refine Ev.stepTo _ (fun k _ => by rw [foghornlaw19_ReedWords.l0, if_pos (by omega), if_pos (by omega), wrap_id _ (by omega) (by omega), show ((i : Int) + 1) = ((i + 1 : Nat) : Int) from by omega]) ?_
    exact ih (i + 1) _ (by rw [List.length_set]; omega) (by rw [List.length_set]; exact hl2)
theorem ReedWords_of (a b c : ByteArray) (r : Int) (e0 d0 : ByteArray × Int) (s0 : List Int × Int) (w0 : Bool × Int) (a0 : Int × Int)
    (h1 : Ev (fun k => reed_Encode.f k a r) e0) (h2 : Ev (fun k => foghornref19_Encode.f k a r) e0) (h3 : Ev (fun k => reed_Syndromes.f k b r) s0) (h4 : Ev (fun k => foghornref19_Syndromes.f k b r) s0)
    (h5 : Ev (fun k => reed_Whole.f k b r) w0) (h6 : Ev (fun k => foghornref19_Whole.f k b r) w0) (h7 : Ev (fun k => reed_Data.f k b r) d0) (h8 : Ev (fun k => foghornref19_Data.f k b r) d0)
    (h9 : Ev (fun k => reed_Apart.f k b c) a0) (h10 : Ev (fun k => foghornref19_Apart.f k b c) a0) (hl : s0.1.length < 65536) : Ev (fun k => foghornlaw19_ReedWords.f k a b c r) true := by
  refine Ev.congr (fun k => by rw [foghornlaw19_ReedWords.f]) ?_
  refine Ev.bind h1 (Ev.bind h2 (Ev.bind h3 (Ev.bind h4 (Ev.bind h5 (Ev.bind h6 (Ev.bind h7 (Ev.bind h8 ?_)))))))
  refine Ev.congr (fun k => by rw [if_pos rfl, if_pos rfl]) ?_
  refine Ev.bind (same s0.1 (by omega)) ?_
  refine Ev.congr (fun k => by rw [if_pos rfl, if_pos rfl, bne_self_eq_false, if_neg (by decide), if_pos rfl, if_pos rfl, bne_self_eq_false]) ?_
  refine Ev.stepTo _ (fun k _ => by rw [foghornlaw19_ReedWords.j0, if_neg (by decide)]) ?_
  refine Ev.bind h9 (Ev.bind h10 ?_)
  exact ReedWords_l0 b r s0 a0.1 a0.2 h3 hl s0.1.length 0 s0.1 (Nat.zero_add _) hl
theorem ReedWords : foghornlaw19_ReedWords.Pure := by
  intro a b c r ha hb hc _
  obtain ⟨d, rfl⟩ := B_of a
  obtain ⟨w, rfl⟩ := B_of b
  obtain ⟨u, rfl⟩ := B_of c
  rw [B_size] at ha hb hc
  have hA : ∃ a0, Ev (fun k => reed_Apart.f k (B w) (B u)) a0 ∧ Ev (fun k => foghornref19_Apart.f k (B w) (B u)) a0 := by
    by_cases h : w.length = u.length
    · exact ⟨_, apart_ev w u h hb, rapart_ev w u h hb⟩
    · exact ⟨(0, 1), ⟨0, fun k _ => apart_no w u h k⟩, ⟨0, fun k _ => rapart_no w u h k⟩⟩
  have hE : ∃ e0, Ev (fun k => reed_Encode.f k (B d) r) e0 ∧ Ev (fun k => foghornref19_Encode.f k (B d) r) e0 := by
    by_cases h : Fits (wrap64 (d.length + r)) r ∧ d ≠ []
    · have hf := (fits_wrap (n := (d.length : Int)) (by omega) (by omega)).1 h.1
      exact ⟨_, encode_ev d r hf h.2, rencode_ev d r hf h.2⟩
    · have h' : ¬ Fits (wrap64 (d.length + r)) r ∨ d = [] := by
        by_cases h2 : d = []
        · exact .inr h2
        · exact .inl (fun e => h ⟨e, h2⟩)
      exact ⟨_, encode_no d r h', rencode_no d r h'⟩
  obtain ⟨a0, h9, h10⟩ := hA
  obtain ⟨e0, h1, h2⟩ := hE
  refine Ev.rounds ?_
  by_cases h : Fits w.length r
  · exact ReedWords_of _ _ _ _ e0 _ _ _ a0 h1 h2 (syndromes_ev w r h) (rsyndromes_ev w r h) (whole_ev w r h) (rwhole_ev w r h) (data_ev w r h) (rdata_ev w r h) h9 h10 (by show (L _).length < _; rw [L_length, syn_length]; have := h.bounds; omega)
  · exact ReedWords_of _ _ _ _ e0 _ _ _ a0 h1 h2 ⟨0, fun k _ => syndromes_no w r h k⟩ ⟨0, fun k _ => rsyndromes_no w r h k⟩ ⟨0, fun k _ => whole_no w r h k⟩ ⟨0, fun k _ => rwhole_no w r h k⟩ ⟨0, fun k _ => data_no w r h k⟩ ⟨0, fun k _ => rdata_no w r h k⟩ h9 h10 (by show ([] : List Int).length < _; decide)
end Go.Proofs.Ytncoakokdajibaa.Pure
