import Derived.Test.YtncoakokdajibaaMendNamesMendLaw
import Derived.Test.YtncoakokdajibaaMendNamesF0
/- Chapter 20's ends, closed. -/
namespace Go.Proofs.Ytncoakokdajibaa.Sem
open Go.RowKit Go.Proofs.Ytncoakokdajibaa.Q Go.Proofs.YtncoakokdajibaaW.PrintWords Go.Proofs.YtncoakokdajibaaW.PrintLast Go.Proofs.YtncoakokdajibaaW.PrintMore Go.Proofs.Ytncoakokdajibaa.Gf

def zw : List F := List.replicate 255 0
theorem zw_len : zw.length = 255 := List.length_replicate
theorem zw_fits : Fits zw.length 2 := by rw [zw_len]; exact ⟨by decide, by decide, by decide⟩
theorem zw_code : Code 2 zw := fun i _ => by
  have := wv_zeros 255 [] (pow two i)
  rw [List.append_nil] at this
  exact this
theorem zw_bad : bad (lay zw zw) zw.length (isf []) = [] := List.filter_eq_nil_iff.2 (fun i _ hi => by
  rw [lay_self] at hi
  unfold nz at hi
  rw [at_replicate] at hi
  simp at hi)
theorem zw_gone : gone zw.length (isf []) = [] := List.filter_eq_nil_iff.2 (fun i _ hi => by unfold isf at hi; simp at hi)
theorem zw_mend : Ev (fun k => mend_Mend.f k (B zw) 2 []) (B zw, [], [], 0) := by
  have hg : Good zw.length [] := ⟨fun x hx => (nomatch hx), List.nodup_nil⟩
  have hR : Reach zw zw (2 : Int).toNat [] := ⟨rfl, zw_code, by rw [zw_bad]; decide⟩
  rcases Mend_ev zw 2 [] (by simp) with ⟨h, _⟩ | ⟨_, ⟨c, hc, hm⟩ | ⟨h, _⟩⟩
  · exact absurd ⟨zw_fits, hg⟩ h
  · obtain rfl := Reach.one (r := (2 : Int).toNat) zw_fits hg hR hc
    rw [zw_bad, zw_gone] at hm
    exact hm
  · exact absurd hR (h zw)
theorem names_run : ∀ (n i : Nat) (out : List S64), Ev (fun k => al_run k 2 (List.replicate n (B zw)) (List.replicate n []) i out []) (out ++ List.replicate n ⟨B zw, [], []⟩, [], 0)
  | 0, i, out => Ev.congr (fun k => by rw [List.replicate_zero, List.replicate_zero, al_run, List.replicate_zero, List.append_nil]) (Ev.now _)
  | n + 1, i, out => by
    have h := names_run n (i + 1) (out ++ [⟨B zw, [], []⟩])
    rw [List.append_assoc, List.singleton_append, ← List.replicate_succ] at h
    refine Ev.congr (fun k => by rw [List.replicate_succ, List.replicate_succ, al_run]) ?_
    refine Ev.bind zw_mend ?_
    exact Ev.congr (fun k => by rw [if_neg (show ¬ (0 : Int) = 1 by decide)]; rfl) h
theorem names_all (n : Nat) (hn : n ≤ 130) : Ev (fun k => mend_All.f k (List.replicate n (B zw)) 2 (List.replicate n [])) (List.replicate n ⟨B zw, [], []⟩, [], 0) := by
  refine Ev.congr (fun k => ?_) (names_run n 0 [])
  rw [mend_All.f, wrap_id _ (by decide) (by decide), check_fits ⟨by decide, by decide, by decide⟩, Option.bind_some, if_pos ⟨rfl, by rw [List.length_replicate, List.length_replicate], by rw [List.length_replicate]; omega⟩]
theorem zw_size : ((B zw).size : Int) = 255 := by rw [B_size, zw_len]; rfl
theorem names_size {Z : ByteArray} (hZ : (Z.size : Int) = 255) : ∀ (n : Nat) (z : Int), 0 ≤ z → z + (n : Int) * 253 ≤ 1000000 → mm_size 2 (List.replicate n Z) z = z + (n : Int) * 253
  | 0, z, _, _ => by rw [List.replicate_zero, mm_size]; omega
  | n + 1, z, h0, h1 => by
    rw [List.replicate_succ, mm_size, hZ, wrap_id (255 - 2) (by decide) (by decide), wrap_id _ (by omega) (by omega), names_size hZ n _ (by omega) (by omega)]
    omega
theorem names_text {Z : ByteArray} (hZ : (Z.size : Int) = 255) : ∀ (n : Nat) (bs : List UInt8), bs.length + n * 253 ≤ 1000000 → ∃ r, mm_text 2 (List.replicate n ⟨Z, [], []⟩) bs = some r ∧ r.length = bs.length + n * 253
  | 0, bs, _ => ⟨bs, by rw [List.replicate_zero, mm_text], by omega⟩
  | n + 1, bs, h => by
    have hl : (Z.extract 0 (253 : Int).toNat).size = 253 := by rw [ByteArray.size_extract, show (253 : Int).toNat = 253 from rfl]; omega
    have hl2 : (Z.extract 0 (253 : Int).toNat).data.toList.length = 253 := by rw [Array.length_toList]; exact hl
    obtain ⟨r, h1, h2⟩ := names_text hZ n (bs ++ (Z.extract 0 (253 : Int).toNat).data.toList) (by rw [List.length_append, hl2]; omega)
    refine ⟨r, ?_, by rw [h2, List.length_append, hl2]; omega⟩
    rw [List.replicate_succ, mm_text]
    dsimp only
    rw [hZ, show wrap64 ((255 : Int) - 2) = 253 from (wrap_id (255 - 2) (by decide) (by decide)).trans rfl, if_pos ⟨by decide, by decide, by rw [hl]; omega⟩]
    exact h1
theorem names_129 : ∃ s : ByteArray, s.size = 32637 ∧ Ev (fun k => mend_Message.f k (List.replicate 129 (B zw)) 2 (List.replicate 129 [])) (s, 0) := by
  obtain ⟨r, h1, h2⟩ := names_text zw_size 129 [] (by decide)
  refine ⟨⟨r.toArray⟩, by rw [List.length_nil] at h2; show r.toArray.size = _; rw [List.size_toArray, h2], ?_⟩
  refine Ev.congr (fun k => by rw [mend_Message.f, if_pos (by rw [List.length_replicate]; decide)]) ?_
  refine Ev.bind (names_all 129 (by decide)) ?_
  refine Ev.congr (fun k => ?_) (Ev.now _)
  unfold mm_end
  rw [if_pos rfl, names_size zw_size 129 0 (by decide) (by decide), if_neg (by decide), if_neg (by decide), if_pos (show (List.replicate 129 (⟨B zw, [], []⟩ : S64)).length ≤ 1000000 by rw [List.length_replicate]; decide), h1]
  rfl
theorem names_130 : Ev (fun k => mend_Message.f k (List.replicate 130 (B zw)) 2 (List.replicate 130 [])) (⟨#[]⟩, 1) := by
  refine Ev.congr (fun k => by rw [mend_Message.f, if_pos (by rw [List.length_replicate]; decide)]) ?_
  refine Ev.bind (names_all 130 (by decide)) ?_
  refine Ev.congr (fun k => ?_) (Ev.now _)
  unfold mm_end
  rw [if_pos rfl, names_size zw_size 130 0 (by decide) (by decide), if_pos (by decide)]
theorem names_l0 : ∀ (d n : Nat), n + d = 130 → Ev (fun k => foghornlaw20_MendNames.l0 k 0 9 9 1 1 ⟨#[]⟩ 0 1 1 (List.replicate n (B zw)) ⟨#[1, 3, 2]⟩ [1] []) true
  | 0, n, h => by
    obtain rfl : n = 130 := by omega
    obtain ⟨s, hs, h1⟩ := names_129
    refine Ev.stepTo _ (fun k _ => by unfold foghornlaw20_MendNames.l0; rw [List.length_replicate, if_neg (by decide), if_pos (by decide), if_pos (by decide), List.take_replicate, show min 129 130 = 129 from rfl]) ?_
    refine Ev.bind h1 ?_
    refine Ev.congr (fun k => by rw [if_pos (by decide)]) ?_
    refine Ev.bind names_130 ?_
    refine Ev.congr (fun k => ?_) (Ev.now _)
    rw [if_pos (show ((s, (0 : Int)).1.size : Int) = 32637 by show (s.size : Int) = _; rw [hs]; rfl), if_pos rfl, if_pos rfl]
    decide +kernel
  | d + 1, n, h => by
    refine Ev.stepTo _ (fun k _ => ?_) (names_l0 d (n + 1) (by omega))
    rw [show List.replicate (n + 1) (B zw) = List.replicate n (B zw) ++ [B zw] from List.replicate_succ']
    conv => lhs; unfold foghornlaw20_MendNames.l0
    rw [List.length_replicate, if_pos (by omega), if_pos (by decide), if_pos (by omega), L_replicate, strOf]
    rfl
theorem names_ev : Ev (fun k => foghornlaw20_MendNames.f k) true := by
  have e0 : Ev (fun k => mend_Mend.f k (⟨#[1, 7, 2]⟩ : ByteArray) 2 []) (⟨#[1, 3, 2]⟩, [1], [], 0) := ev_mono (fun k => mend_Mend.mono _ _ _ k) (K := 200) (by decide +kernel)
  have e1 : Ev (fun k => mend_Mend.f k (⟨#[1, 7, 7]⟩ : ByteArray) 2 []) (⟨#[]⟩, [], [], 9) := ev_mono (fun k => mend_Mend.mono _ _ _ k) (K := 200) (by decide +kernel)
  have e2 : Ev (fun k => mend_Mend.f k (⟨#[1, 3, 2]⟩ : ByteArray) 2 [0, 1, 2]) (⟨#[]⟩, [], [], 9) := ev_mono (fun k => mend_Mend.mono _ _ _ k) (K := 200) (by decide +kernel)
  have e3 : Ev (fun k => mend_Mend.f k (⟨#[1, 3, 2]⟩ : ByteArray) 2 [1, 1]) (⟨#[]⟩, [], [], 1) := ev_mono (fun k => mend_Mend.mono _ _ _ k) (K := 200) (by decide +kernel)
  have e4 : Ev (fun k => mend_Mend.f k (⟨#[1, 3, 2]⟩ : ByteArray) 3 []) (⟨#[]⟩, [], [], 1) := ev_mono (fun k => mend_Mend.mono _ _ _ k) (K := 200) (by decide +kernel)
  have e5 : Ev (fun k => mend_Message.f k [] 2 []) (⟨#[]⟩, 0) := ev_mono (fun k => mend_Message.mono _ _ _ k) (K := 10) (by decide +kernel)
  have e6 : Ev (fun k => mend_Message.f k [] 0 []) (⟨#[]⟩, 1) := ev_mono (fun k => mend_Message.mono _ _ _ k) (K := 10) (by decide +kernel)
  have e7 : Ev (fun k => mend_Locator.f k [] 256) ([], 1) := ev_mono (fun k => mend_Locator.mono _ _ k) (K := 10) (by decide +kernel)
  refine Ev.congr (fun k => by rw [foghornlaw20_MendNames.f]) ?_
  exact Ev.bind e0 (Ev.bind e1 (Ev.bind e2 (Ev.bind e3 (Ev.bind e4 (Ev.bind e5 (Ev.bind e6 (Ev.bind e7 (names_l0 130 0 rfl))))))))
end Go.Proofs.Ytncoakokdajibaa.Sem
namespace Go.Proofs.Ytncoakokdajibaa.Pure
open Go.RowKit Go.Proofs.Ytncoakokdajibaa.Q Go.Proofs.YtncoakokdajibaaW.PrintWords Go.Proofs.YtncoakokdajibaaW.PrintLast Go.Proofs.YtncoakokdajibaaW.PrintMore Go.Proofs.Ytncoakokdajibaa.Gf Go.Proofs.Ytncoakokdajibaa.Sem
theorem MendNames : foghornlaw20_MendNames.Pure := by
  obtain ⟨K, hK⟩ := names_ev
  exact ⟨K, hK K (Nat.le_refl _)⟩
end Go.Proofs.Ytncoakokdajibaa.Pure
