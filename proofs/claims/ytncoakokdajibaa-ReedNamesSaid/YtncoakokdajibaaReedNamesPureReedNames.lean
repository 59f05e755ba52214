import Derived.Test.YtncoakokdajibaaReedNamesFit19
import Derived.Test.YtncoakokdajibaaReedNamesMsgRun
import Derived.Test.YtncoakokdajibaaReedNamesF0
/- ReedNames, over numbers: the limits of words, checks and messages. -/
namespace Go.Proofs.Ytncoakokdajibaa.Pure
open Go.RowKit Go.Proofs.Ytncoakokdajibaa.Q Go.Proofs.YtncoakokdajibaaW.PrintWords Go.Proofs.YtncoakokdajibaaW.PrintLast Go.Proofs.YtncoakokdajibaaW.PrintMore Go.Proofs.Ytncoakokdajibaa.Gf Go.Proofs.Ytncoakokdajibaa.Sem

theorem names_check (n r : Int) (b : Bool) (h : decide (Fits n r) = b := by decide) : reed_Check.f n r = some (if b = true then 0 else 1) := by
  subst h
  by_cases c : Fits n r
  · rw [check_fits c, if_pos (decide_eq_true c)]
  · rw [check_no c, if_neg (by rw [decide_eq_false c]; decide)]
theorem names_no (d : List F) (r : Int) (h : isChecks r = false ∨ 255 < d.length + r) (hl : d.length ≤ 65536) (hr : r = 64 ∨ r = 66) : Ev (fun k => reed_Encode.f k (B d) r) (B [], 1) := by
  refine encode_no d r (Or.inl ?_)
  rw [wrap_id _ (by omega) (by omega)]
  rintro ⟨h1, h2, h3⟩
  rcases h with h | h
  · rw [h] at h1; exact absurd h1 (by decide)
  · omega
theorem names_over (ps : List (List F)) (h : Sem.Good 64 ps) (hl : ps.length ≤ 32767) (hs : ps.flatten.length = 32768) (w : List F) (hw : w.length = 65) : Ev (fun k => reed_Message.f k (ps.map (cw 64) ++ [B w]) 64) (B [], 1) := by
  refine Ev.congr (fun k => by
    rw [reed_Message.f, if_pos (by rw [List.length_append, List.length_map]; simp only [List.length_cons, List.length_nil]; omega), checks, Option.bind_some, show isChecks 64 = true from by decide, if_pos rfl, msgRun_append, step1z ps h (by omega), Option.bind_some, if_pos rfl]) ?_
  have e : msgStep1 64 (ps.flatten.length : Int) (B w) = some (32769, 1) := by
    unfold msgStep1 msgSum
    rw [toNat_len, hw, hs, show (((65 : Nat) : Int)) = 65 from rfl, names_check 65 64 true, Option.map_some]
    decide +kernel
  refine Ev.congr (fun k => by rw [msgRun, e]; rfl) (Ev.now _)
theorem B_nums (n : Nat) : strOfNums (List.replicate n 0) = B (List.replicate n 0) := by
  unfold B
  rw [← L_replicate]
theorem ReedNames : foghornlaw19_ReedNames.Pure := by
  have hc : isChecks 64 = true := by decide
  refine Ev.rounds ?_
  refine Ev.congr (fun k => by rw [foghornlaw19_ReedNames.f]) ?_
  refine Ev.bind works_ev ?_
  refine Ev.congr (fun k => by rw [if_pos rfl, if_pos (by decide), Option.bind_some, B_nums, B_nums]) ?_
  generalize hz : List.replicate 32769 (0 : F) = z
  have hl : z.length = 32769 := by rw [← hz, List.length_replicate]
  have hsz : ((B z).size : Int) = 32769 := by rw [toNat_len, hl]; rfl
  refine Ev.congr (fun k => by rw [if_pos (by decide), hsz, if_pos (by decide), B_take]) ?_
  have h191 : (z.take 191).length = 191 := by rw [List.length_take]; omega
  have h192 : (z.take 192).length = 192 := by rw [List.length_take]; omega
  have h9 : (z.take 9).length = 9 := by rw [List.length_take]; omega
  have hm : (z.take 32768).length = 32768 := by rw [List.length_take]; omega
  have hf : Fits 255 64 := fits_of hc (by omega) (by omega)
  refine Ev.bind (encode_ev (z.take 191) 64 (by rw [h191]; exact hf) (List.length_pos_iff.1 (by omega))) ?_
  refine Ev.congr (fun k => by rw [if_pos (by decide), if_pos (by decide), B_take]) ?_
  refine Ev.bind (names_no (z.take 192) 64 (Or.inr (by omega)) (by omega) (Or.inl rfl)) ?_
  refine Ev.congr (fun k => by rw [if_pos (by decide), if_pos (by decide), B_take]) ?_
  refine Ev.bind (names_no (z.take 9) 66 (Or.inl (by decide)) (by omega) (Or.inr rfl)) ?_
  refine Ev.congr (fun k => by rw [if_pos (by decide), if_pos (by decide), B_take]) ?_
  have hw := words_ev (z.take 32768) 255 64 hf (by omega)
  have hms := message_words hf (z.take 32768) (by omega)
  have hgood := good_pieces hf (z.take 32768).length (z.take 32768)
  have hfl := pieces_flat (255 - 64 : Int).toNat (by decide) (z.take 32768).length (z.take 32768) (Nat.le_refl _)
  have hpl := pieces_length (255 - 64 : Int).toNat (by decide) (z.take 32768).length (z.take 32768) (Nat.le_refl _)
  have hpl2 : (pieces (255 - 64 : Int).toNat (z.take 32768).length (z.take 32768)).length = 172 := by rw [hpl, hm]; decide
  generalize pieces (255 - 64 : Int).toNat (z.take 32768).length (z.take 32768) = ps at hw hms hgood hfl hpl2
  refine Ev.bind hw ?_
  refine Ev.bind (words_long z 255 64 hf (by omega)) ?_
  refine Ev.bind hms ?_
  refine Ev.congr (fun k => by rw [Option.bind_some, if_pos (by rw [List.length_map, hpl2]; decide), Option.bind_some, if_pos (by decide), Option.bind_some, if_pos (by rw [List.length_append, List.length_map, hpl2]; decide), List.nil_append]) ?_
  have hcl : (z.take 191 ++ chk (64 : Int).toNat (z.take 191)).length = 255 := by rw [List.length_append, chk_length _ (by decide), h191]; rfl
  have hgl : ((L (gen (64 : Int).toNat)).length : Int) = 65 := by rw [L_length, gen_length]; rfl
  have hg64 : rd (L (gen (64 : Int).toNat)) 64 = 1 := by
    rw [rd_L]
    show I (at_ (gen 64) 64) = 1
    rw [gen_top]
    rfl
  have hge := generator_ev 64 hc
  generalize L (gen (64 : Int).toNat) = g at hge hgl hg64
  refine Ev.bind (names_over ps hgood (by omega) (by rw [hfl, hm]) _ List.length_replicate) ?_
  refine Ev.bind hge ?_
  refine Ev.congr (fun k => by rw [if_pos rfl, if_pos rfl, if_pos rfl, if_pos rfl, if_pos rfl, if_pos rfl, if_pos rfl, if_pos rfl, toNat_len, hcl, if_pos (by decide), List.length_map, hpl2, if_pos (by decide), if_pos rfl]) ?_
  refine Ev.congr (fun k => by dsimp only) ?_
  refine Ev.congr (fun k => by rw [hgl, if_pos rfl, if_pos (by decide), hg64, if_pos rfl]) ?_
  refine Ev.congr (fun k => by rw [names_check 255 64 true, Option.bind_some, if_pos rfl, names_check 256 64 false, Option.bind_some, if_pos (by decide), names_check 65 64 true, Option.bind_some, if_pos rfl, names_check 64 64 false, Option.bind_some, if_pos (by decide), names_check 9 3 false, Option.bind_some]) ?_
  exact Ev.now _
end Go.Proofs.Ytncoakokdajibaa.Pure
