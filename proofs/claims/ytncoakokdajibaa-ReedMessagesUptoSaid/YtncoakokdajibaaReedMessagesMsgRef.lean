import Derived.Test.YtncoakokdajibaaReedMessagesMsgRun
import Derived.Test.YtncoakokdajibaaReedMessagesRefReed
import Derived.Test.YtncoakokdajibaaReedMessagesF0
/- Any words' message: the program's and the document's. -/
namespace Go.Proofs.Ytncoakokdajibaa.Sem
open Go.RowKit Go.Proofs.Ytncoakokdajibaa.Q Go.Proofs.YtncoakokdajibaaW.PrintWords Go.Proofs.YtncoakokdajibaaW.PrintLast Go.Proofs.YtncoakokdajibaaW.PrintMore Go.Proofs.Ytncoakokdajibaa.Gf

/-- A word's data, by its length alone. -/
def dat (r : Int) (w : List F) : List F := w.take (w.length - r.toNat)
/-- All data, one behind the other. -/
def dats (r : Int) (ws : List (List F)) : List F := (ws.map (dat r)).flatten
def AllFit (r : Int) (ws : List (List F)) : Prop := ∀ w ∈ ws, Fits w.length r
theorem list_B : ∀ l : List ByteArray, ∃ ws : List (List F), l = ws.map B
  | [] => ⟨[], rfl⟩
  | s :: l => by
    obtain ⟨w, rfl⟩ := B_of s
    obtain ⟨ws, rfl⟩ := list_B l
    exact ⟨w :: ws, rfl⟩
theorem dats_cons (r : Int) (w : List F) (ws : List (List F)) : dats r (w :: ws) = dat r w ++ dats r ws := rfl
theorem dat_length {r : Int} {w : List F} (h : Fits w.length r) : ((dat r w).length : Int) = w.length - r := by
  have := h.bounds
  unfold dat
  rw [List.length_take]
  omega
theorem u8s_append (p q : List F) : u8s (p ++ q) = u8s p ++ u8s q := by unfold u8s; rw [List.map_append]
theorem told_ok {t s : Int} (h : msgTold t s = 0) : t = 0 ∧ s ≤ 32768 := by
  unfold msgTold at h
  by_cases c : t = 0
  · rw [if_pos c] at h
    by_cases d : s > 32768
    · rw [if_pos d] at h; omega
    · exact ⟨c, by omega⟩
  · rw [if_neg c] at h; omega
theorem told_no {t s : Int} (h : ¬ (t = 0 ∧ s ≤ 32768)) : msgTold t s = 1 := by
  unfold msgTold
  by_cases c : t = 0
  · rw [if_pos c, if_pos (by omega)]
  · rw [if_neg c]
/-- The first walk over the words: do all fit, and are there not too many data? -/
theorem first_ok {r : Int} : ∀ (ws : List (List F)) (s : Nat), AllFit r ws → s + (dats r ws).length ≤ 32768 → msgRun (msgStep1 r) (s : Int) (ws.map B) = some (((s + (dats r ws).length : Nat) : Int), 0)
  | [], s, _, _ => rfl
  | w :: ws, s, h, hs => by
    have hw := h w (List.mem_cons_self ..)
    have hb := hw.bounds
    have hd := dat_length hw
    rw [dats_cons, List.length_append] at hs ⊢
    have h1 : msgStep1 r (s : Int) (B w) = some (((s + (dat r w).length : Nat) : Int), 0) := by
      unfold msgStep1
      rw [toNat_len, check_fits hw, Option.map_some]
      have e : msgSum r (s : Int) (B w) = ((s + (dat r w).length : Nat) : Int) := by
        unfold msgSum
        rw [toNat_len, ← hd, wrap_id ((dat r w).length : Int) (by omega) (by omega), wrap_id _ (by omega) (by omega)]
        omega
      rw [e]
      unfold msgTold
      rw [if_pos rfl, if_neg (by omega)]
    rw [List.map_cons, msgRun, h1, Option.bind_some, if_pos rfl, first_ok ws (s + (dat r w).length) (fun v hv => h v (List.mem_cons_of_mem _ hv)) (by omega), Nat.add_assoc]
theorem first_no {r : Int} : ∀ (ws : List (List F)) (s : Nat), s ≤ 32768 → ¬ (AllFit r ws ∧ s + (dats r ws).length ≤ 32768) → ∃ x, msgRun (msgStep1 r) (s : Int) (ws.map B) = some (x, 1)
  | [], s, hs, h => absurd ⟨(fun w hw => by cases hw), hs⟩ h
  | w :: ws, s, hs, h => by
    by_cases hw : Fits w.length r
    · have hb := hw.bounds
      have hd := dat_length hw
      have e : msgSum r (s : Int) (B w) = ((s + (dat r w).length : Nat) : Int) := by
        unfold msgSum
        rw [toNat_len, ← hd, wrap_id ((dat r w).length : Int) (by omega) (by omega), wrap_id _ (by omega) (by omega)]
        omega
      by_cases c : s + (dat r w).length ≤ 32768
      · have h1 : msgStep1 r (s : Int) (B w) = some (((s + (dat r w).length : Nat) : Int), 0) := by
          unfold msgStep1
          rw [toNat_len, check_fits hw, Option.map_some, e]
          unfold msgTold
          rw [if_pos rfl, if_neg (by omega)]
        obtain ⟨x, hx⟩ := first_no (r := r) ws (s + (dat r w).length) c (fun ⟨h2, h3⟩ => h ⟨fun v hv => by
          rcases List.mem_cons.1 hv with rfl | hv
          · exact hw
          · exact h2 v hv, by rw [dats_cons, List.length_append]; omega⟩)
        exact ⟨x, by rw [List.map_cons, msgRun, h1, Option.bind_some, if_pos rfl, hx]⟩
      · refine ⟨((s + (dat r w).length : Nat) : Int), ?_⟩
        have h1 : msgStep1 r (s : Int) (B w) = some (((s + (dat r w).length : Nat) : Int), 1) := by
          unfold msgStep1
          rw [toNat_len, check_fits hw, Option.map_some, e]
          unfold msgTold
          rw [if_pos rfl, if_pos (by omega)]
        rw [List.map_cons, msgRun, h1, Option.bind_some, if_neg (show ¬ ((1 : Int) = 0) from by decide)]
    · refine ⟨msgSum r (s : Int) (B w), ?_⟩
      have h1 : msgStep1 r (s : Int) (B w) = some (msgSum r (s : Int) (B w), 1) := by
        unfold msgStep1
        rw [toNat_len, check_no hw, Option.map_some]
        unfold msgTold
        rw [if_neg (by decide)]
      rw [List.map_cons, msgRun, h1, Option.bind_some, if_neg (show ¬ ((1 : Int) = 0) from by decide)]
/-- The second walk: their data. -/
theorem second_step {r : Int} {w : List F} (hw : Fits w.length r) (bs : List UInt8) (hs : bs.length + (dat r w).length ≤ 140737488355328) : Ev (fun k => msgStep2 k r bs (B w)) (if wholeB w r.toNat = true then (bs ++ u8s (dat r w), 0) else (bs, 6)) := by
  refine Ev.congr (fun k => by rw [msgStep2]) ?_
  refine Ev.bind (data_ev w r hw) ?_
  by_cases c : wholeB w r.toNat = true
  · rw [if_pos c, if_pos c]
    refine Ev.congr (fun k => by rw [if_pos (by show bs.length + (B (dat r w)).size ≤ _; rw [B_size]; exact hs)]) ?_
    show Ev (fun _ => some (bs ++ (B (dat r w)).data.toList, (0 : Int))) _
    rw [B_data]
    exact Ev.now _
  · rw [if_neg c, if_neg c]
    refine Ev.congr (fun k => by rw [if_pos (by show bs.length + (B []).size ≤ _; rw [B_size]; simp only [List.length_nil]; omega)]) ?_
    show Ev (fun _ => some (bs ++ (B []).data.toList, (6 : Int))) _
    rw [B_data]
    show Ev (fun _ => some (bs ++ [], (6 : Int))) _
    rw [List.append_nil]
    exact Ev.now _
def AllWhole (r : Int) (ws : List (List F)) : Bool := ws.all (fun w => wholeB w r.toNat)
theorem second {r : Int} : ∀ (ws : List (List F)) (bs : List UInt8), AllFit r ws → bs.length + (dats r ws).length ≤ 140737488355328 →
    ∃ x, Ev (fun k => msgRun (msgStep2 k r) bs (ws.map B)) (if AllWhole r ws = true then (bs ++ u8s (dats r ws), 0) else (x, 6))
  | [], bs, _, _ => ⟨bs, by
    show Ev (fun _ => some (bs, (0 : Int))) (if true = true then (bs ++ [], 0) else _)
    rw [if_pos rfl, List.append_nil]
    exact Ev.now _⟩
  | w :: ws, bs, h, hs => by
    have hw := h w (List.mem_cons_self ..)
    rw [dats_cons, List.length_append] at hs
    have h1 := second_step hw bs (by omega)
    by_cases c : wholeB w r.toNat = true
    · rw [if_pos c] at h1
      obtain ⟨x, hx⟩ := second ws (bs ++ u8s (dat r w)) (fun v hv => h v (List.mem_cons_of_mem _ hv)) (by rw [List.length_append]; unfold u8s; rw [List.length_map]; omega)
      refine ⟨x, ?_⟩
      have e : AllWhole r (w :: ws) = AllWhole r ws := by unfold AllWhole; rw [List.all_cons, c, Bool.true_and]
      rw [e, dats_cons, u8s_append, ← List.append_assoc]
      refine Ev.congr (fun k => by rw [List.map_cons, msgRun]) ?_
      refine Ev.bind h1 ?_
      refine Ev.congr (fun k => by rw [if_pos rfl]) ?_
      exact hx
    · rw [if_neg c] at h1
      refine ⟨bs, ?_⟩
      have e : AllWhole r (w :: ws) = false := by unfold AllWhole; rw [List.all_cons, Bool.eq_false_iff.2 c, Bool.false_and]
      rw [e, if_neg (by decide)]
      refine Ev.congr (fun k => by rw [List.map_cons, msgRun]) ?_
      refine Ev.bind h1 ?_
      refine Ev.congr (fun k => by rw [if_neg (show ¬ ((6 : Int) = 0) from by decide)]) ?_
      exact Ev.now _
/-- What words say. -/
noncomputable def msgAns (r : Int) (ws : List (List F)) : ByteArray × Int :=
  open Classical in if isChecks r = true ∧ AllFit r ws ∧ (dats r ws).length ≤ 32768 then (if AllWhole r ws = true then (B (dats r ws), 0) else (B [], 6)) else (B [], 1)
theorem message_any (r : Int) (ws : List (List F)) (hl : ws.length ≤ 140737488355328) : Ev (fun k => reed_Message.f k (ws.map B) r) (msgAns r ws) := by
  refine Ev.congr (fun k => by rw [reed_Message.f, if_pos (by rw [List.length_map]; exact hl), checks, Option.bind_some]) ?_
  by_cases hc : isChecks r = true
  · refine Ev.congr (fun k => by rw [if_pos hc]) ?_
    by_cases h : AllFit r ws ∧ (dats r ws).length ≤ 32768
    · have h1 := first_ok (r := r) ws 0 h.1 (by omega)
      rw [Nat.zero_add] at h1
      refine Ev.congr (fun k => by rw [show msgRun (msgStep1 r) 0 (ws.map B) = _ from h1, Option.bind_some, if_pos rfl]) ?_
      obtain ⟨x, hx⟩ := second (r := r) ws [] h.1 (by simp only [List.length_nil]; omega)
      unfold msgAns
      rw [if_pos ⟨hc, h⟩]
      refine Ev.bind hx ?_
      by_cases c : AllWhole r ws = true
      · rw [if_pos c, if_pos c]
        refine Ev.congr (fun k => by rw [if_pos rfl]) ?_
        have e : (⟨(([] : List UInt8) ++ u8s (dats r ws)).toArray⟩ : ByteArray) = B (dats r ws) := B_ext (by rw [B_data]; rfl)
        rw [e]
        exact Ev.now _
      · rw [if_neg c, if_neg c]
        refine Ev.congr (fun k => by rw [if_neg (show ¬ ((6 : Int) = 0) from by decide)]) ?_
        exact Ev.now _
    · obtain ⟨x, hx⟩ := first_no (r := r) ws 0 (by omega) (by rw [Nat.zero_add]; exact h)
      refine Ev.congr (fun k => by rw [show msgRun (msgStep1 r) 0 (ws.map B) = _ from hx, Option.bind_some, if_neg (show ¬ ((1 : Int) = 0) from by decide)]) ?_
      unfold msgAns
      rw [if_neg (fun e => h e.2)]
      exact Ev.now _
  · refine Ev.congr (fun k => by rw [if_neg hc]) ?_
    unfold msgAns
    rw [if_neg (fun e => hc e.1)]
    exact Ev.now _
/-! the document's -/
def num8 (bs : List UInt8) : List Int := bs.map (fun c => (c.toNat : Int))
theorem rdOf_B (ws : List (List F)) (i : Nat) (h : i < ws.length) : rdOf ByteArray.empty (ws.map B) (i : Int) = B ws[i] := by
  unfold rdOf
  rw [Int.toNat_natCast, List.getD_eq_getElem?_getD, List.getElem?_map, List.getElem?_eq_getElem h]
  rfl
theorem rmsg_l1 (r : Int) (ws : List (List F)) (hl : ws.length ≤ 140737488355328) (h : AllFit r ws) (o : List F) (e : Nat) : ∀ i : Nat, i + e = ws.length →
    Ev (fun k => foghornref19_Message.l1 k (ws.map B) r (L o) (i : Int)) (if AllWhole r (ws.drop i) = true then (B o, 0) else (B [], 6)) := by
  induction e with
  | zero =>
    intro i hi
    refine Ev.stepTo _ (fun k _ => by rw [foghornref19_Message.l1, if_neg (by rw [List.length_map]; omega)]) ?_
    rw [List.drop_of_length_le (by omega), show AllWhole r [] = true from rfl, if_pos rfl]
    exact Ev.now _
  | succ e ih =>
    intro i hi
    have hw := h ws[i] (List.getElem_mem (by omega))
    refine Ev.stepTo _ (fun k _ => by rw [foghornref19_Message.l1, if_pos (by rw [List.length_map]; omega), if_pos (by omega), rdOf_B ws i (by omega)]) ?_
    refine Ev.bind (rwhole_ev ws[i] r hw) ?_
    rw [List.drop_eq_getElem_cons (by omega)]
    by_cases c : wholeB ws[i] r.toNat = true
    · have e2 : AllWhole r (ws[i] :: ws.drop (i + 1)) = AllWhole r (ws.drop (i + 1)) := by unfold AllWhole; rw [List.all_cons, c, Bool.true_and]
      rw [e2]
      refine Ev.congr (fun k => by rw [if_pos c, wrap_id _ (by omega) (by omega), show ((i : Int) + 1) = ((i + 1 : Nat) : Int) from by omega]) ?_
      exact ih (i + 1) (by omega)
    · have e2 : AllWhole r (ws[i] :: ws.drop (i + 1)) = false := by unfold AllWhole; rw [List.all_cons, Bool.eq_false_iff.2 c, Bool.false_and]
      rw [e2, if_neg (by decide)]
      refine Ev.congr (fun k => by rw [if_neg c]) ?_
      exact Ev.now _
theorem rmsg_l0 (r : Int) (ws : List (List F)) (hl : ws.length ≤ 140737488355328) (e : Nat) : ∀ (i : Nat) (o : List F), i + e = ws.length → AllFit r (ws.take i) → o = dats r (ws.take i) → o.length + ((ws.drop i).map List.length).sum ≤ 1048576 →
    Ev (fun k => foghornref19_Message.l0 k (ws.map B) r (L o) (i : Int)) (open Classical in if AllFit r ws ∧ (dats r ws).length ≤ 32768 then (if AllWhole r ws = true then (B (dats r ws), 0) else (B [], 6)) else (B [], 1)) := by
  induction e with
  | zero =>
    intro i o hi hf ho _
    rw [List.take_of_length_le (by omega)] at hf ho
    subst ho
    refine Ev.stepTo _ (fun k _ => by rw [foghornref19_Message.l0, if_neg (by rw [List.length_map]; omega), L_length]) ?_
    by_cases c : (dats r ws).length ≤ 32768
    · rw [if_pos ⟨hf, c⟩]
      refine Ev.congr (fun k => by rw [if_neg (by omega)]) ?_
      exact rmsg_l1 r ws hl hf _ ws.length 0 (Nat.zero_add _)
    · rw [if_neg (fun e => c e.2)]
      refine Ev.congr (fun k => by rw [if_pos (by omega)]) ?_
      exact Ev.now _
  | succ e ih =>
    intro i o hi hf ho hs
    have hd : ws.drop i = ws[i] :: ws.drop (i + 1) := List.drop_eq_getElem_cons (by omega)
    rw [hd, List.map_cons, List.sum_cons] at hs
    refine Ev.stepTo _ (fun k _ => by rw [foghornref19_Message.l0, if_pos (by rw [List.length_map]; omega), if_pos (by omega), rdOf_B ws i (by omega), toNat_len]) ?_
    by_cases hw : Fits ws[i].length r
    · have hb := hw.bounds
      have hdl := dat_length hw
      have e1 : wrap64 ((ws[i].length : Int) - r) = ((ws[i].length - r.toNat : Nat) : Int) := by rw [wrap_id _ (by omega) (by omega)]; omega
      have ht : ws.take (i + 1) = ws.take i ++ [ws[i]] := by rw [List.take_succ_eq_append_getElem (by omega)]
      refine Ev.congr (fun k => by rw [rcheck_fits hw, Option.bind_some, if_pos rfl, e1, if_pos (by omega), if_pos (by omega), Int.toNat_natCast, B_take, if_pos (by rw [L_length, B_size, List.length_take]; omega), bytesOf_B, ← L_append, wrap_id _ (by omega) (by omega), show ((i : Int) + 1) = ((i + 1 : Nat) : Int) from by omega]) ?_
      refine ih (i + 1) (o ++ ws[i].take (ws[i].length - r.toNat)) (by omega) ?_ ?_ ?_
      · rw [ht]
        intro w hm
        rcases List.mem_append.1 hm with hm | hm
        · exact hf w hm
        · rw [List.mem_singleton.1 hm]; exact hw
      · rw [ht, ho]
        unfold dats
        rw [List.map_append, List.flatten_append]
        show _ = _ ++ (dat r ws[i] ++ [])
        rw [List.append_nil]
        rfl
      · rw [List.length_append, List.length_take]
        omega
    · rw [if_neg (fun e => hw (e.1 _ (List.getElem_mem (by omega))))]
      refine Ev.congr (fun k => by rw [rcheck_no hw, Option.bind_some, if_neg (by decide)]) ?_
      exact Ev.now _
theorem rmessage_any (r : Int) (ws : List (List F)) (hl : ws.length ≤ 140737488355328) (hs : (ws.map List.length).sum ≤ 1048576) : Ev (fun k => foghornref19_Message.f k (ws.map B) r) (msgAns r ws) := by
  refine Ev.congr (fun k => by rw [foghornref19_Message.f]) ?_
  unfold msgAns
  by_cases hc : isChecks r = true
  · have hb := of_decide_eq_true hc
    have e1 : wrap64 (r + 1) = r + 1 := wrap_id _ (by omega) (by omega)
    refine Ev.congr (fun k => by rw [e1, rcheck_fits ⟨hc, by omega, by omega⟩, Option.bind_some, if_pos rfl]) ?_
    have h := rmsg_l0 r ws hl ws.length 0 [] (Nat.zero_add _) (fun w hw => by rw [List.take_zero] at hw; cases hw) rfl (by simp only [List.length_nil, List.drop_zero]; omega)
    by_cases c : AllFit r ws ∧ (dats r ws).length ≤ 32768
    · rw [if_pos ⟨hc, c⟩]
      rw [if_pos c] at h
      exact h
    · rw [if_neg (fun e => c e.2)]
      rw [if_neg c] at h
      exact h
  · rw [if_neg (fun e => hc e.1)]
    refine Ev.congr (fun k => by rw [rcheck_no (fun e => hc e.1), Option.bind_some, if_neg (by decide)]) ?_
    exact Ev.now _
/-! the document's words of a message -/
theorem rwords_l0 (d : List F) (n r : Int) (h : Fits n r) (hd : d.length ≤ 32768) (e : Nat) : ∀ (i : Nat) (acc : List ByteArray), d.length ≤ i + e → acc.length ≤ i →
    Ev (fun k => foghornref19_Words.l0 k (B d) n r acc (i : Int)) (acc ++ (pieces (n - r).toNat e (d.drop i)).map (cw r), 0) := by
  have hb := h.bounds
  induction e with
  | zero =>
    intro i acc hi _
    refine Ev.stepTo _ (fun k _ => by rw [foghornref19_Words.l0, toNat_len, if_neg (by omega)]) ?_
    show Ev _ (acc ++ [], 0)
    rw [List.append_nil]
    exact Ev.now _
  | succ e ih =>
    intro i acc hi hl
    by_cases c : i < d.length
    · have hn : d.drop i ≠ [] := List.length_pos_iff.1 (by rw [List.length_drop]; omega)
      have e1 : wrap64 (wrap64 ((i : Int) + n) - r) = ((i + (n - r).toNat : Nat) : Int) := by
        rw [wrap_id ((i : Int) + n) (by omega) (by omega), wrap_id _ (by omega) (by omega)]
        omega
      refine Ev.stepTo _ (fun k _ => by rw [foghornref19_Words.l0, toNat_len, if_pos (by omega), if_pos (by omega), e1, mn_min', if_pos (by omega), if_pos (by omega), Int.toNat_natCast, Int.toNat_natCast, B_extract]) ?_
      have ep : (d.take (min d.length (i + (n - r).toNat))).drop i = (d.drop i).take (n - r).toNat := by
        rw [List.drop_take]
        by_cases c2 : i + (n - r).toNat ≤ d.length
        · rw [Nat.min_eq_right c2, Nat.add_sub_cancel_left]
        · rw [Nat.min_eq_left (by omega), List.take_of_length_le (by rw [List.length_drop]; omega), List.take_of_length_le (by rw [List.length_drop]; omega)]
      rw [ep]
      have hf : Fits ((((d.drop i).take (n - r).toNat).length : Int) + r) r := ⟨h.1, by rw [List.length_take, List.length_drop]; omega, by rw [List.length_take]; omega⟩
      refine Ev.bind (rencode_ev _ r hf (List.length_pos_iff.1 (by rw [List.length_take, List.length_drop]; omega))) ?_
      refine Ev.congr (fun k => by rw [if_pos (by omega)]) ?_
      have := ih (i + (n - r).toNat) (acc ++ [cw r ((d.drop i).take (n - r).toNat)]) (by omega) (by rw [List.length_append]; simp only [List.length_cons, List.length_nil]; omega)
      rw [List.append_assoc, ← List.drop_drop] at this
      rw [pieces_ne _ _ hn]
      exact this
    · refine Ev.stepTo _ (fun k _ => by rw [foghornref19_Words.l0, toNat_len, if_neg (by omega)]) ?_
      rw [List.drop_of_length_le (by omega), pieces_nil]
      show Ev _ (acc ++ [], 0)
      rw [List.append_nil]
      exact Ev.now _
def wordsAns (d : List F) (n r : Int) : List ByteArray × Int := if Fits n r ∧ d.length ≤ 32768 then ((pieces (n - r).toNat d.length d).map (cw r), 0) else ([], 1)
theorem wordsAns_length (d : List F) (n r : Int) : (wordsAns d n r).1.length ≤ 140737488355328 := by
  unfold wordsAns
  by_cases h : Fits n r ∧ d.length ≤ 32768
  · rw [if_pos h]
    have hb := h.1.bounds
    have := pieces_count (n - r).toNat (by omega) d.length d
    show (List.map _ _).length ≤ _
    rw [List.length_map]
    omega
  · rw [if_neg h]
    exact Nat.zero_le _
theorem words_any (d : List F) (n r : Int) : Ev (fun k => reed_Words.f k (B d) n r) (wordsAns d n r) := by
  unfold wordsAns
  by_cases h : Fits n r
  · by_cases hd : d.length ≤ 32768
    · rw [if_pos ⟨h, hd⟩]
      exact words_ev d n r h hd
    · rw [if_neg (fun e => hd e.2)]
      exact words_long d n r h (by omega)
  · rw [if_neg (fun e => h e.1)]
    refine Ev.congr (fun k => by rw [reed_Words.f, check_no h, Option.bind_some, if_neg (by decide)]) ?_
    exact Ev.stepTo _ (fun k _ => by rw [reed_Words.j0, if_pos rfl]) (Ev.now _)
theorem rwords_any (d : List F) (n r : Int) : Ev (fun k => foghornref19_Words.f k (B d) n r) (wordsAns d n r) := by
  unfold wordsAns
  by_cases h : Fits n r
  · by_cases hd : d.length ≤ 32768
    · rw [if_pos ⟨h, hd⟩]
      refine Ev.congr (fun k => by rw [foghornref19_Words.f, rcheck_fits h, Option.bind_some, if_pos rfl, toNat_len, decide_eq_false (show ¬ ((d.length : Int) > 32768) from by omega)]) ?_
      refine Ev.stepTo _ (fun k _ => by rw [foghornref19_Words.j0, if_neg (by decide)]) ?_
      exact rwords_l0 d n r h hd d.length 0 [] (by omega) (Nat.le_refl _)
    · rw [if_neg (fun e => hd e.2)]
      refine Ev.congr (fun k => by rw [foghornref19_Words.f, rcheck_fits h, Option.bind_some, if_pos rfl, toNat_len, decide_eq_true (show ((d.length : Int) > 32768) from by omega)]) ?_
      exact Ev.stepTo _ (fun k _ => by rw [foghornref19_Words.j0, if_pos rfl]) (Ev.now _)
  · rw [if_neg (fun e => h e.1)]
    refine Ev.congr (fun k => by rw [foghornref19_Words.f, rcheck_no h, Option.bind_some, if_neg (by decide)]) ?_
    exact Ev.stepTo _ (fun k _ => by rw [foghornref19_Words.j0, if_pos rfl]) (Ev.now _)
end Go.Proofs.Ytncoakokdajibaa.Sem
