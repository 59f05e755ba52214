import Derived.Test.YtncoakokdajibaaFieldNoneRuns
import Derived.Test.YtncoakokdajibaaFieldNoneF0
/- FieldNone, over numbers: the ends and limits of layer 18, each call run as it stands; the polynomial with 511 roots by its own law. -/
namespace Go.Proofs.Ytncoakokdajibaa.Pure
open Go.RowKit Go.Proofs.Ytncoakokdajibaa.Q Go.Proofs.YtncoakokdajibaaW.PrintWords Go.Proofs.YtncoakokdajibaaW.PrintLast Go.Proofs.YtncoakokdajibaaW.PrintMore Go.Proofs.Ytncoakokdajibaa.Gf Go.Proofs.Ytncoakokdajibaa.Sem

set_option maxRecDepth 100000
abbrev top : List Int := (List.replicate 512 0).set 511 1
theorem none1 : Ev (fun k => field_Sum.f k (List.replicate 513 0) []) ([], 1) := Ev.of (fun k => field_Sum.mono _ _ k) (k := 600) (by decide +kernel)
theorem none2 : Ev (fun k => field_Sum.f k [] []) ([], 0) := Ev.of (fun k => field_Sum.mono _ _ k) (k := 60) (by decide +kernel)
theorem none3 : Ev (fun k => field_Product.f k top [0, 1]) ([], 1) := Ev.of (fun k => field_Product.mono _ _ k) (k := 600) (by decide +kernel)
def topF : List F := (List.replicate 512 0).set 511 1
theorem top_L : top = L topF := by
  show (List.replicate 512 (0 : Int)).set 511 (I 1) = _
  rw [L_replicate, L_set]
  rfl
theorem topF_length : topF.length = 512 := by unfold topF; rw [List.length_set, List.length_replicate]
theorem topF_isPoly : IsPoly topF := .inr (by
  rw [topF_length]
  unfold topF
  rw [at_set _ _ _ _ (by rw [List.length_replicate]; omega), if_pos (by omega)]
  exact one_ne_zero)
theorem topF_ne : topF ≠ [] := fun h => by have := topF_length; rw [h] at this; simp at this
theorem none4 : ∃ o : List Int, o.length = 512 ∧ Ev (fun k => field_Product.f k top [5]) (o, 0) := by
  have hq : IsPoly [(⟨5, by decide⟩ : F)] := .inr (by decide)
  have h := Product_ev topF [(⟨5, by decide⟩ : F)] (by rw [topF_length]; omega) (by simp) (.inr (.inr (by rw [trim_of_isPoly topF_isPoly, trim_of_isPoly hq, topF_length]; simp)))
  refine ⟨_, ?_, by rw [top_L]; exact h⟩
  rw [L_length, mulP_length topF_isPoly hq topF_ne (by simp), topF_length]
  rfl
theorem none5 : Ev (fun k => field_Product.f k top []) ([], 0) := by
  have h := Product_ev topF [] (by rw [topF_length]; omega) (by simp) (.inr (.inl rfl))
  have hz : mulP topF [] = [] := trim_nil_iff.2 (mulL_nil topF)
  rw [hz, ← top_L] at h
  exact h
theorem none6 : Ev (fun k => field_Product.f k (List.replicate 512 0) (List.replicate 512 0)) ([], 0) := Ev.of (fun k => field_Product.mono _ _ k) (k := 1200) (by decide +kernel)
theorem none7 : Ev (fun k => field_Divide.f k [] (List.replicate 9 0)) ([], [], 6) := Ev.of (fun k => field_Divide.mono _ _ k) (k := 60) (by decide +kernel)
theorem none8 : Ev (fun k => field_Roots.f k (List.replicate 9 0)) ([], 6) := Ev.of (fun k => field_Roots.mono _ k) (k := 60) (by decide +kernel)
theorem none9 : Ev (fun k => field_Roots.f k [1]) ([], 0) := Ev.of (fun k => field_Roots.mono _ k) (k := 400) (by decide +kernel)
theorem none10 : Ev (fun k => field_Of.f k (List.replicate 512 0)) ([], 1) := Ev.of (fun k => field_Of.mono _ k) (k := 60) (by decide +kernel)
theorem none11 : ∃ o : List Int, o.length = 512 ∧ Ev (fun k => field_Of.f k (List.replicate 511 0)) (o, 0) := by
  have h := of_ev (List.replicate 511 0) (by rw [List.length_replicate]; decide)
  rw [← L_replicate] at h
  exact ⟨_, by rw [L_length, ofRoots_length, List.length_replicate], h⟩
theorem none12 : Ev (fun k => field_Through.f k []) ([], 0) := Ev.of (fun k => field_Through.mono _ k) (k := 60) (by decide +kernel)
theorem none13 : Ev (fun k => field_Gcd.f k [] (List.replicate 3 0)) ([], 0) := Ev.of (fun k => field_Gcd.mono _ _ k) (k := 60) (by decide +kernel)
theorem none14 : field_At.f (List.replicate 513 0) 0 = some (0, 1) := by decide +kernel
theorem none15 : Ev (fun k => field_Slope.f k (List.replicate 513 0)) ([], 1) := Ev.of (fun k => field_Slope.mono _ k) (k := 600) (by decide +kernel)
theorem none16 : Ev (fun k => field_Power.f k 0 0) (1, 0) := Ev.of (fun k => field_Power.mono _ _ k) (k := 60) (by decide +kernel)
theorem none17 : Ev (fun k => foghornlaw18_awake.f k) true := Ev.of (fun k => foghornlaw18_awake.mono k) (k := 60) (by decide +kernel)
theorem FieldNone_ev : Ev (fun k => foghornlaw18_FieldNone.f k) true := by
  obtain ⟨o, ho, h11⟩ := none11
  obtain ⟨o4, ho4, h4⟩ := none4
  unfold foghornlaw18_FieldNone.f
  refine Ev.congr (fun k => if_pos (by omega)) ?_
  refine Ev.congr (fun k => Option.bind_some _ _) ?_
  refine Ev.congr (fun k => if_pos (by rw [List.length_replicate]; omega)) ?_
  refine Ev.congr (fun k => Option.bind_some _ _) ?_
  refine Ev.congr (fun k => if_pos (by omega)) ?_
  refine Ev.bind none1 ?_
  refine Ev.bind none2 ?_
  refine Ev.bind none3 ?_
  refine Ev.bind h4 ?_
  refine Ev.bind none5 ?_
  refine Ev.bind none6 ?_
  refine Ev.congr (fun k => if_pos (by omega)) ?_
  refine Ev.bind none7 ?_
  refine Ev.bind none8 ?_
  refine Ev.bind none9 ?_
  refine Ev.bind none10 ?_
  refine Ev.congr (fun k => if_pos (by omega)) ?_
  refine Ev.bind h11 ?_
  refine Ev.bind none12 ?_
  refine Ev.congr (fun k => if_pos (by omega)) ?_
  refine Ev.bind none13 ?_
  refine Ev.congr (fun k => (congrArg (Option.bind · _) none14).trans (Option.bind_some _ _)) ?_
  refine Ev.bind none15 ?_
  refine Ev.bind none16 ?_
  have hl4 : (o4.length : Int) = 512 := by rw [ho4]; rfl
  have hl : (o.length : Int) = 512 := by rw [ho]; rfl
  generalize o4 = o4 at *
  simp only [if_true, hl4, hl, List.length_nil, Int.natCast_zero]
  exact Ev.bind none17 (Ev.now _)
theorem FieldNone : foghornlaw18_FieldNone.Pure := Ev.rounds FieldNone_ev
end Go.Proofs.Ytncoakokdajibaa.Pure
