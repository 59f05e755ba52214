import Derived.Test.YtncoakokdajibaaMendMendsRMend4
import Derived.Test.YtncoakokdajibaaMendMendsMendLaw
import Derived.Test.YtncoakokdajibaaMendMendsF1
/- Mending answers as the document's, whatever is done to what was handed out. -/
namespace Go.Proofs.Ytncoakokdajibaa.Sem
open Go.RowKit Go.Proofs.Ytncoakokdajibaa.Q Go.Proofs.YtncoakokdajibaaW.PrintWords Go.Proofs.YtncoakokdajibaaW.PrintLast Go.Proofs.YtncoakokdajibaaW.PrintMore Go.Proofs.Ytncoakokdajibaa.Gf
theorem numbers2_l0 (l : List Int) (hl : l.length ≤ 140737488351232) (d : Nat) : ∀ i, i + d = l.length → Ev (fun k => foghornref20_Numbers.l0 k l l (i : Int)) true := by
  induction d with
  | zero =>
    intro i hi
    exact Ev.stepTo2 _ (fun k _ => by rw [foghornref20_Numbers.l0, if_neg (by omega)]) (Ev.now _)
  | succ d ih =>
    intro i hi
    exact Ev.stepTo2 _ (fun k _ => by rw [foghornref20_Numbers.l0, if_pos (by omega), if_pos (by omega), if_pos (by omega), if_pos rfl, wrap_id _ (by omega) (by omega), show ((i : Int) + 1) = ((i + 1 : Nat) : Int) from by omega]) (ih (i + 1) (by omega))
theorem numbers2_ev (l : List Int) (hl : l.length ≤ 140737488351232) : Ev (fun k => foghornref20_Numbers.f k l l) true :=
  Ev.congr (fun k => by rw [foghornref20_Numbers.f, if_pos rfl]; rfl) (numbers2_l0 l hl l.length 0 (Nat.zero_add _))
theorem alike_ev (s : ByteArray) (P Q : List Int) (hP : P.length ≤ 140737488351232) (hQ : Q.length ≤ 140737488351232) : Ev (fun k => foghornlaw20_alike.f k s P Q s P Q) true := by
  refine Ev.congr (fun k => by rw [foghornlaw20_alike.f, if_pos rfl]) ?_
  refine Ev.bind (numbers2_ev P hP) ?_
  refine Ev.congr (fun k => by rw [if_pos rfl]) ?_
  exact Ev.bind (numbers2_ev Q hQ) (Ev.now _)
theorem spoil_l2 (s : ByteArray) (d : Nat) : ∀ (i : Nat) (P Q : List Int), i + d = 20 → P.length ≤ 1000 + i → Q.length ≤ 1000 + i → Ev (fun k => foghornlaw20_spoil.l2 k (i : Int) s P Q) () := by
  induction d with
  | zero =>
    intro i P Q hi hP hQ
    exact Ev.stepTo2 _ (fun k _ => by rw [foghornlaw20_spoil.l2, if_neg (by omega)]) (Ev.now _)
  | succ d ih =>
    intro i P Q hi hP hQ
    refine Ev.stepTo2 _ (fun k _ => by rw [foghornlaw20_spoil.l2, if_pos (by omega), if_pos (by omega), if_pos (by omega), wrap_id _ (by omega) (by omega), show ((i : Int) + 1) = ((i + 1 : Nat) : Int) from by omega]) (ih (i + 1) (P ++ [(-3)]) (Q ++ [(-4)]) (by omega) (by rw [List.length_append, List.length_singleton]; omega) (by rw [List.length_append, List.length_singleton]; omega))
theorem spoil_l1 (s : ByteArray) (P : List Int) (hP : P.length ≤ 1000) (d : Nat) : ∀ (i : Nat) (Q : List Int), i + d = Q.length → Q.length ≤ 1000 → Ev (fun k => foghornlaw20_spoil.l1 k (i : Int) s P Q) () := by
  induction d with
  | zero =>
    intro i Q hi hQ
    exact Ev.stepTo2 _ (fun k _ => by rw [foghornlaw20_spoil.l1, if_neg (by omega)]; rfl) (spoil_l2 s 20 0 P Q (by omega) (by omega) (by omega))
  | succ d ih =>
    intro i Q hi hQ
    refine Ev.stepTo2 _ (fun k _ => by rw [foghornlaw20_spoil.l1, if_pos (by omega), if_pos (by omega), wrap_id _ (by omega) (by omega), show ((i : Int) + 1) = ((i + 1 : Nat) : Int) from by omega]) (ih (i + 1) _ (by rw [List.length_set]; omega) (by rw [List.length_set]; exact hQ))
theorem spoil_l0 (s : ByteArray) (Q : List Int) (hQ : Q.length ≤ 1000) (d : Nat) : ∀ (i : Nat) (P : List Int), i + d = P.length → P.length ≤ 1000 → Ev (fun k => foghornlaw20_spoil.l0 k (i : Int) s P Q) () := by
  induction d with
  | zero =>
    intro i P hi hP
    exact Ev.stepTo2 _ (fun k _ => by rw [foghornlaw20_spoil.l0, if_neg (by omega)]; rfl) (spoil_l1 s P hP Q.length 0 Q (by omega) hQ)
  | succ d ih =>
    intro i P hi hP
    refine Ev.stepTo2 _ (fun k _ => by rw [foghornlaw20_spoil.l0, if_pos (by omega), if_pos (by omega), wrap_id _ (by omega) (by omega), show ((i : Int) + 1) = ((i + 1 : Nat) : Int) from by omega]) (ih (i + 1) _ (by rw [List.length_set]; omega) (by rw [List.length_set]; exact hP))
theorem spoil_ev (s : ByteArray) (P Q : List Int) (hP : P.length ≤ 1000) (hQ : Q.length ≤ 1000) : Ev (fun k => foghornlaw20_spoil.f k s P Q) () :=
  Ev.congr (fun k => by rw [foghornlaw20_spoil.f]; rfl) (spoil_l0 s Q hQ P.length 0 P (by omega) hP)
theorem mends_l2 (a0 : ByteArray) (a1 : Int) (a3 : ByteArray) (a4 : Int) (n : Nat) (hn : n ≤ 17592186043904) (t : Int) (H : ∀ l : List Int, l.length = n → Ev (fun k => foghornlaw20_MendMends.l0 k a0 a1 a3 a4 (n : Int) l (wrap64 (t + 1))) true) (d : Nat) : ∀ (i : Nat) (l : List Int), i + d = n → l.length = n → Ev (fun k => foghornlaw20_MendMends.l2 k a0 a1 a3 a4 (n : Int) l t (i : Int)) true := by
  induction d with
  | zero =>
    intro i l hi hl
    exact Ev.stepTo2 _ (fun k _ => by rw [foghornlaw20_MendMends.l2, if_neg (by omega)]) (H l hl)
  | succ d ih =>
    intro i l hi hl
    exact Ev.stepTo2 _ (fun k _ => by rw [foghornlaw20_MendMends.l2, if_pos (by omega), if_pos (by omega), if_pos (by omega), wrap_id ((i : Int) + 1) (by omega) (by omega), show ((i : Int) + 1) = ((i + 1 : Nat) : Int) from by omega]) (ih (i + 1) _ (by omega) (by rw [List.length_set]; exact hl))
theorem mends_l1 (a0 : ByteArray) (a1 : Int) (a3 : ByteArray) (a4 : Int) (n : Nat) (t : Int) (l : List Int) (H : Ev (fun k => foghornlaw20_MendMends.l2 k a0 a1 a3 a4 (n : Int) l t 0) true) (d : Nat) : ∀ (i : Nat) (p : List Int), i + d = p.length → p.length ≤ 1000 → Ev (fun k => foghornlaw20_MendMends.l1 k a0 a1 a3 a4 (n : Int) l t p (i : Int)) true := by
  induction d with
  | zero =>
    intro i p hi hp
    exact Ev.stepTo2 _ (fun k _ => by rw [foghornlaw20_MendMends.l1, if_neg (by omega)]) H
  | succ d ih =>
    intro i p hi hp
    exact Ev.stepTo2 _ (fun k _ => by rw [foghornlaw20_MendMends.l1, if_pos (by omega), if_pos (by omega), wrap_id ((i : Int) + 1) (by omega) (by omega), show ((i : Int) + 1) = ((i + 1 : Nat) : Int) from by omega]) (ih (i + 1) _ (by rw [List.length_set]; omega) (by rw [List.length_set]; exact hp))
theorem mends_l0 (w c : List F) (a1 a4 : Int) (n : Nat) (hn : n ≤ 17592186043904) (d : Nat) : ∀ (t : Nat) (l : List Int), t + d = 2 → l.length = n → Ev (fun k => foghornlaw20_MendMends.l0 k (B w) a1 (B c) a4 (n : Int) l (t : Int)) true := by
  induction d with
  | zero =>
    intro t l ht hl
    exact Ev.stepTo2 _ (fun k _ => by rw [foghornlaw20_MendMends.l0, if_neg (by omega)]) (Ev.now _)
  | succ d ih =>
    intro t l ht hl
    obtain ⟨b, P, Q, e, hM, hR, hP, hQ⟩ := RMend_same w a1 l (by omega)
    obtain ⟨X, hX1, hX2⟩ := Within_same w c a1 l (by omega)
    obtain ⟨Y, hY1, hY2, hY3⟩ := Locator_same l (by omega) a4
    have hPl : (Lz P).length ≤ 1000 := by rw [Lz_length]; omega
    have hQl : (Lz Q).length ≤ 1000 := by rw [Lz_length]; omega
    have hal := alike_ev (B b) (Lz P) (Lz Q) (by omega) (by omega)
    refine Ev.stepTo2 _ (fun k _ => by rw [foghornlaw20_MendMends.l0, if_pos (by omega), Option.bind_some, if_pos (by rw [List.length_nil]; omega), List.nil_append, Option.bind_some]) ?_
    refine Ev.bind hR ?_
    refine Ev.bind hM ?_
    refine Ev.bind hM ?_
    refine Ev.congr (fun k => by rw [if_pos rfl, if_pos rfl]) ?_
    refine Ev.bind hal ?_
    refine Ev.congr (fun k => by rw [if_pos rfl]) ?_
    refine Ev.bind hal ?_
    refine Ev.congr (fun k => by rw [if_pos rfl]) ?_
    refine Ev.bind (numbers2_ev l (by omega)) ?_
    have hrd : (rd (l ++ [987]) (n : Int) != 987) = false := by
      unfold rd
      rw [Int.toNat_natCast, List.getD_eq_getElem?_getD, List.getElem?_append_right (by omega), hl, Nat.sub_self]
      rfl
    refine Ev.congr (fun k => by rw [if_pos rfl, if_pos (by rw [wrap_id _ (by omega) (by omega), hl]), Option.bind_some, if_pos (by omega), if_pos (by rw [List.length_append, List.length_singleton]; omega), hrd]) ?_
    refine Ev.stepTo2 _ (fun k _ => by rw [foghornlaw20_MendMends.j1, if_neg (by decide)]) ?_
    refine Ev.bind (spoil_ev (B b) (Lz P) (Lz Q) hPl hQl) ?_
    refine Ev.bind hal ?_
    refine Ev.congr (fun k => by rw [if_pos rfl]) ?_
    refine Ev.bind hX1 ?_
    refine Ev.bind hX2 ?_
    refine Ev.congr (fun k => by rw [bne_self_eq_false, bne_self_eq_false, if_neg (by decide)]) ?_
    refine Ev.stepTo2 _ (fun k _ => by rw [foghornlaw20_MendMends.j2, if_neg (by decide)]) ?_
    refine Ev.bind hY1 ?_
    refine Ev.bind hY2 ?_
    refine Ev.congr (fun k => by rw [if_pos rfl, bne_self_eq_false]) ?_
    refine Ev.stepTo2 _ (fun k _ => by rw [foghornlaw20_MendMends.j3, if_neg (by decide)]) ?_
    refine mends_l1 (B w) a1 (B c) a4 n (t : Int) l ?_ Y.1.length 0 Y.1 (by omega) (by omega)
    refine mends_l2 (B w) a1 (B c) a4 n hn (t : Int) (fun l' hl' => ?_) n 0 l (by omega) hl
    refine Ev.congr (fun k => by rw [wrap_id _ (by omega) (by omega), show ((t : Int) + 1) = ((t + 1 : Nat) : Int) from by omega]) (ih (t + 1) l' (by omega) hl')
end Go.Proofs.Ytncoakokdajibaa.Sem
namespace Go.Proofs.Ytncoakokdajibaa.Pure
open Go.RowKit Go.Proofs.Ytncoakokdajibaa.Q Go.Proofs.YtncoakokdajibaaW.PrintWords Go.Proofs.YtncoakokdajibaaW.PrintLast Go.Proofs.YtncoakokdajibaaW.PrintMore Go.Proofs.Ytncoakokdajibaa.Gf Go.Proofs.Ytncoakokdajibaa.Sem
theorem MendMends : foghornlaw20_MendMends.Pure := by
  intro a0 a1 l2 a3 a4 _ _ h2 h3 _ _ _
  obtain ⟨w, rfl⟩ := B_of a0
  obtain ⟨c, rfl⟩ := B_of a3
  have : Ev (fun k => foghornlaw20_MendMends.f k (B w) a1 l2 (B c) a4) true := by
    refine Ev.congr (fun k => by rw [foghornlaw20_MendMends.f, Option.bind_some, if_pos (by rw [List.length_nil]; omega), List.nil_append, Option.bind_some, if_pos (by omega), if_pos (by rw [List.length_append]; omega)]) ?_
    exact mends_l0 w c a1 a4 l2.length (by omega) 2 0 l2 (by omega) rfl
  obtain ⟨K, hK⟩ := this
  exact ⟨K, hK K (Nat.le_refl _)⟩
end Go.Proofs.Ytncoakokdajibaa.Pure
