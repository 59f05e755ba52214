import Derived.Test.YtncoakokdajibaaFit19
import Derived.Test.YtncoakokdajibaaMsgRun
import Derived.Test.YtncoakokdajibaaQF1
/- ReedBack, over numbers: data, and messages, there and back. -/
namespace Go.Proofs.Ytncoakokdajibaa.Pure
open Go.RowKit Go.Proofs.Ytncoakokdajibaa.Q Go.Proofs.YtncoakokdajibaaW.PrintWords Go.Proofs.YtncoakokdajibaaW.PrintLast Go.Proofs.YtncoakokdajibaaW.PrintMore Go.Proofs.Ytncoakokdajibaa.Gf Go.Proofs.Ytncoakokdajibaa.Sem

theorem back_div (a t : Nat) : Int.tdiv ((a : Int) + t) ((t : Int) + 1) = (((a + t) / (t + 1) : Nat) : Int) := by
  rw [Int.tdiv_eq_ediv_of_nonneg (by omega)]
  rfl
theorem back_len (q : Int) (m t : Nat) (hlo : 2 ≤ q) (hhi : q ≤ 64) (hm : m ≤ 3000) (ht : t ≤ 255) : wrap64 (Int.tdiv (wrap64 (wrap64 (wrap64 ((m : Int) + (q + 1 + t)) - q) - 1)) ((t : Int) + 1)) = (((m + t) / (t + 1) : Nat) : Int) := by
  have e1 : wrap64 ((m : Int) + (q + 1 + t)) = m + (q + 1 + t) := wrap_id _ (by omega) (by omega)
  rw [e1, show (m : Int) + (q + 1 + t) - q = m + (t + 1) from by omega]
  clear e1
  have e2 : wrap64 ((m : Int) + (t + 1)) = m + (t + 1) := wrap_id _ (by omega) (by omega)
  rw [e2, show (m : Int) + (t + 1) - 1 = m + t from by omega]
  clear e2
  have e3 : wrap64 ((m : Int) + t) = m + t := wrap_id _ (by omega) (by omega)
  rw [e3, back_div]
  have : (m + t) / (t + 1) ≤ m + t := Nat.div_le_self _ _
  generalize (m + t) / (t + 1) = g at this
  exact wrap_id _ (by omega) (by omega)
theorem ReedBack_end (d : List F) (q x : Int) (s : List Int) (hd : d.length ≤ 140737488351232) (hc : isChecks q = true) (hlo : 2 ≤ q) (hhi : q ≤ 64) (i : Int) (hi : ¬ i < (s.length : Int)) :
    Ev (fun k => foghornlaw19_ReedBack.l0 k q (B d) x s i) true := by
  have h0 : IntKind.u64.wrap x = x % 18446744073709551616 := rfl
  have h1 : wrap64 (255 - q) = 255 - q := wrap_id _ (by omega) (by omega)
  have h2 : IntKind.u64.wrap (255 - q) = 255 - q := by
    show (255 - q) % 18446744073709551616 = 255 - q
    omega
  have h3 : wrap64 (q + 1) = q + 1 := wrap_id _ (by omega) (by omega)
  generalize hm : x % 18446744073709551616 = y at h0
  have hy0 : 0 ≤ y := by omega
  have ht : Int.tmod y (255 - q) = y % (255 - q) := Int.tmod_eq_emod_of_nonneg hy0
  have hz0 : 0 ≤ y % (255 - q) := Int.emod_nonneg _ (by omega)
  have hz1 : y % (255 - q) < 255 - q := Int.emod_lt_of_pos _ (by omega)
  generalize y % (255 - q) = z at ht hz0 hz1
  have h4 : wrap64 (q + 1 + z) = q + 1 + z := wrap_id _ (by omega) (by omega)
  have h5 : wrap64 z = z := wrap_id _ (by omega) (by omega)
  have h6 : wrap64 (q + 1 + z - q) = z + 1 := by rw [show q + 1 + z - q = z + 1 from by omega]; exact wrap_id _ (by omega) (by omega)
  have hn : mn (d.length : Int) 3000 = ((min d.length 3000 : Nat) : Int) := mn_min _ 3000
  have hf : Fits (q + 1 + z) q := fits_of hc (by omega) (by omega)
  have hme : (d.take (min d.length 3000)).length = min d.length 3000 := by rw [List.length_take]; omega
  generalize hp : d.take (min d.length 3000) = p at hme
  have hsz : ((B p).size : Int) = (p.length : Int) := toNat_len p
  refine Ev.stepTo _ (fun k _ => by rw [foghornlaw19_ReedBack.l0, if_neg hi, h1, h2, if_neg (by omega), toNat_len, hn, if_pos (by omega), if_pos (by omega), Int.toNat_natCast, B_take, hp, h0, ht, h5, h3, h4, h6]) ?_
  refine Ev.bind (words_ev p (q + 1 + z) q hf (by omega)) ?_
  refine Ev.bind (message_words hf p (by omega)) ?_
  obtain ⟨t, rfl⟩ : ∃ t : Nat, z = (t : Int) := ⟨z.toNat, by omega⟩
  clear h0 h1 h2 h3 h4 h5 h6 hn ht hy0 hm
  have hle : t ≤ 255 := by omega
  have hlb := back_len q p.length t hlo hhi (by omega) hle
  have hq : ((q + 1 + (t : Int)) - q).toNat = t + 1 := by omega
  have hpl := pieces_length (t + 1) (by omega) p.length p (Nat.le_refl _)
  have hcount : ((((pieces ((q + 1 + (t : Int)) - q).toNat p.length p).map (cw q)).length : Nat) : Int) = (((p.length + t) / (t + 1) : Nat) : Int) := by
    rw [List.length_map, hq, hpl]
    rw [show p.length + (t + 1) - 1 = p.length + t from by omega]
  refine Ev.congr (fun k => by rw [if_pos rfl, if_pos rfl, if_pos rfl, if_neg (by omega), hsz, hlb, hcount, beq_self_eq_true]) (Ev.now _)
theorem ReedBack_l0 (d : List F) (q x : Int) (s : List F) (hs : s.length ≤ 64) (hz : ∀ i, i < s.length → at_ s i = 0) (hd : d.length ≤ 140737488351232) (hc : isChecks q = true) (hlo : 2 ≤ q) (hhi : q ≤ 64) (e : Nat) : ∀ (i : Nat), i + e = s.length →
    Ev (fun k => foghornlaw19_ReedBack.l0 k q (B d) x (L s) (i : Int)) true := by
  induction e with
  | zero =>
    intro i hi
    exact ReedBack_end d q x (L s) hd hc hlo hhi i (by rw [L_length]; omega)
  | succ e ih =>
    intro i hi
    refine Ev.stepTo _ (fun k _ => by rw [foghornlaw19_ReedBack.l0, if_pos (by rw [L_length]; omega), if_pos (by omega), rd_L, Int.toNat_natCast, hz i (by omega), if_pos (I_eq_zero.2 rfl), wrap_id _ (by omega) (by omega), show ((i : Int) + 1) = ((i + 1 : Nat) : Int) from by omega]) ?_
    exact ih (i + 1) (by omega)
theorem ReedBack : foghornlaw19_ReedBack.Pure := by
  intro s r t x hs _ ht _
  obtain ⟨d, rfl⟩ := B_of s
  obtain ⟨m, rfl⟩ := B_of t
  rw [B_size] at hs ht
  have hc := fitR_checks r
  have hlo := fitR_lo r
  have hhi := fitR_hi r
  have hl := fitD_len d r
  have hn := fitD_ne d r
  have hf := fit_f d r hs
  generalize fitD d r = a at hf hl hn
  generalize fitR r = q at *
  have hp := List.length_pos_iff.2 hn
  refine Ev.rounds ?_
  refine Ev.congr (fun k => by rw [foghornlaw19_ReedBack.f]) ?_
  refine Ev.bind works_ev ?_
  refine Ev.congr (fun k => by rw [if_pos rfl, hf, Option.bind_some]) ?_
  have hcl : (a ++ chk q.toNat a).length = a.length + q.toNat := by rw [List.length_append, chk_length _ (by omega)]
  have hcode := chk_code q.toNat (by omega) a
  have hfit : Fits (a ++ chk q.toNat a).length q := fits_of hc (by omega) (by omega)
  refine Ev.bind (encode_ev a q (fits_of hc (by omega) (by omega)) hn) ?_
  have hd := data_ev (a ++ chk q.toNat a) q hfit
  rw [(wholeB_iff _ _).2 hcode, if_pos rfl, hcl, Nat.add_sub_cancel, List.take_left] at hd
  refine Ev.bind hd ?_
  have hw := whole_ev (a ++ chk q.toNat a) q hfit
  rw [(wholeB_iff _ _).2 hcode] at hw
  refine Ev.bind hw ?_
  refine Ev.bind (syndromes_ev (a ++ chk q.toNat a) q hfit) ?_
  have e1 : (((L (syn (a ++ chk q.toNat a) q.toNat)).length : Int) != q) = false := by
    rw [L_length, syn_length, bne_eq_false_iff_eq]
    omega
  refine Ev.congr (fun k => by rw [if_pos rfl, if_pos rfl, if_pos rfl, if_pos rfl, if_pos rfl, if_pos rfl, toNat_len, toNat_len, hcl, if_pos (by rw [wrap_id _ (by omega) (by omega)]; omega), e1]) ?_
  refine Ev.stepTo _ (fun k _ => by rw [foghornlaw19_ReedBack.j0, if_neg (by decide)]) ?_
  refine ReedBack_l0 m q x _ (by rw [syn_length]; omega) (fun i hi => ?_) ht hc hlo hhi _ 0 (Nat.zero_add _)
  rw [syn_length] at hi
  rw [at_syn _ _ _ hi]
  exact hcode i hi
end Go.Proofs.Ytncoakokdajibaa.Pure
