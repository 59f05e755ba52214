-- Printed by myprint.py (ours) over the kit's printer, out of the translation.
import Derived.Shelf.Strings.Builder1
import Derived.Test.YtncoakokdajibaaReedMessagesK0
import Derived.Test.YtncoakokdajibaaReedMessagesF0
import Derived.Test.YtncoakokdajibaaReedMessagesQ0
import Derived.Test.YtncoakokdajibaaReedMessagesQ2
namespace Go.Proofs.Ytncoakokdajibaa.Q
open Go.RowKit Go.Proofs.YtncoakokdajibaaW.PrintWords Go.Proofs.YtncoakokdajibaaW.PrintLast Go.Proofs.YtncoakokdajibaaW.PrintMore
attribute [local go_sem] ArrW.ptrOf_slice max2_int min2_int max_two min_two max_three min_three max_four min_four   -- for this text's walks alone
set_option linter.unusedVariables false
set_option linter.unusedSimpArgs false

/-! ### reed_Message: function 32 -/
--WALK
def msgB_ren : Go.Shelf.Ren := ⟨fun x => if x = 166 then 75 else if x = 240 then 101 else if x = 276 then 113 else if x = 169 then 76 else x, fun x => if x = 0 then 0 else if x = 3 then 3 else if x = 4 then 4 else if x = 5 then 5 else if x = 9 then 9 else if x = 20 then 20 else if x = 37 then 29 else if x = 70 then 95 else if x = 72 then 97 else if x = 75 then 99 else if x = 80 then 102 else if x = 127 then 129 else if x = 164 then 144 else x, fun x => x⟩
set_option maxRecDepth 100000 in
theorem msgB_l166 : Go.Proofs.Lays.n166 Try.prog msgB_ren where
 mixed := by kernel_rfl
 f166 := by kernel_rfl
 f240 := by kernel_rfl
 f276 := by kernel_rfl
 t0 := by kernel_rfl
 a0 := fun w => by kernel_rfl
 z0 := fun w => by kernel_rfl
 v0 := fun w => by kernel_rfl
 t3 := by kernel_rfl
 a3 := fun w => by kernel_rfl
 z3 := fun w => by kernel_rfl
 v3 := fun w => by kernel_rfl
 t4 := by kernel_rfl
 a4 := fun w => by kernel_rfl
 z4 := fun w => by kernel_rfl
 v4 := fun w => by kernel_rfl
 t9 := by kernel_rfl
 a9 := fun w => by kernel_rfl
 z9 := fun w => by kernel_rfl
 v9 := fun w => by kernel_rfl
 t20 := by kernel_rfl
 a20 := fun w => by kernel_rfl
 z20 := fun w => by kernel_rfl
 v20 := fun w => by kernel_rfl
 t37 := by kernel_rfl
 a37 := fun w => by kernel_rfl
 z37 := fun w => by kernel_rfl
 v37 := fun w => by kernel_rfl
 t70 := by kernel_rfl
 a70 := fun w => by kernel_rfl
 z70 := fun w => by kernel_rfl
 v70 := fun w => by kernel_rfl
 t72 := by kernel_rfl
 a72 := fun w => by kernel_rfl
 z72 := fun w => by kernel_rfl
 v72 := fun w => by kernel_rfl
 t75 := by kernel_rfl
 a75 := fun w => by kernel_rfl
 z75 := fun w => by kernel_rfl
 v75 := fun w => by kernel_rfl
 t164 := by kernel_rfl
 a164 := fun w => by kernel_rfl
 z164 := fun w => by kernel_rfl
 v164 := fun w => by kernel_rfl
set_option maxRecDepth 100000 in
theorem msgB_l169 : Go.Proofs.Lays.n169 Try.prog msgB_ren where
 mixed := by kernel_rfl
 f169 := by kernel_rfl
 t0 := by kernel_rfl
 a0 := fun w => by kernel_rfl
 z0 := fun w => by kernel_rfl
 v0 := fun w => by kernel_rfl
 t3 := by kernel_rfl
 a3 := fun w => by kernel_rfl
 z3 := fun w => by kernel_rfl
 v3 := fun w => by kernel_rfl
 t9 := by kernel_rfl
 a9 := fun w => by kernel_rfl
 z9 := fun w => by kernel_rfl
 v9 := fun w => by kernel_rfl
 t37 := by kernel_rfl
 a37 := fun w => by kernel_rfl
 z37 := fun w => by kernel_rfl
 v37 := fun w => by kernel_rfl
 t70 := by kernel_rfl
 a70 := fun w => by kernel_rfl
 z70 := fun w => by kernel_rfl
 v70 := fun w => by kernel_rfl
 t72 := by kernel_rfl
 a72 := fun w => by kernel_rfl
 z72 := fun w => by kernel_rfl
 v72 := fun w => by kernel_rfl
 t127 := by kernel_rfl
 a127 := fun w => by kernel_rfl
 z127 := fun w => by kernel_rfl
 v127 := fun w => by kernel_rfl
set_option maxRecDepth 100000 in
theorem msgB_ex : Go.Proofs.Builder.Extra Try.prog msgB_ren where
 sizeBuilder := by kernel_rfl
 liesBuilder := by kernel_rfl
 t5 := by kernel_rfl
 a5 := fun w => by kernel_rfl
 z5 := fun w => by kernel_rfl
 v5 := fun w => by kernel_rfl
 infoByte := by kernel_rfl
 cellsByte := by kernel_rfl
 sizeByte := by kernel_rfl
 neB5 := by decide
theorem msgB_write (B b : Nat) (bs : List Value) (s : ByteArray) (w : World) (h : Lib.IsBuilder 97 5 B b bs w) (hlen : bs.length + s.size ≤ 140737488355328) (hBw : B ≤ w.heap.size) :
  Calls Try.prog 75 #[.pointer (some ⟨b, 0, none⟩), .string s] w fun e w' => e = .returned (.tuple #[.int .i64 s.size, .nilIface]) ∧ (Lib.BuilderAt 97 5 B b (.pointer (some ⟨b, 0, none⟩)) (bs ++ Lib.strCells s) w' ∧ Below B w w') :=
 Go.Proofs.Any.Builder_WriteString msgB_l166 msgB_ex B b bs s w h hlen hBw
theorem msgB_string (B b : Nat) (l : List UInt8) (w : World) (h : Lib.IsBuilder 97 5 B b (Lib.byteCells l) w) (hBw : B ≤ w.heap.size) :
  Calls Try.prog 76 #[.pointer (some ⟨b, 0, none⟩)] w fun e w' => e = .returned (.string ⟨l.toArray⟩) ∧ Below B w w' :=
 Go.Proofs.Any.Builder_String_any msgB_l169 msgB_ex B b l w h hBw

set_option maxHeartbeats 8000000 in
set_option maxRecDepth 100000 in
theorem msgB_msg2_calls (s : ByteArray) (r sum t : Int) (Bs Br : Nat) (w : World) (hs : w.heap[Bs]? = some (.cells #[.int .i64 sum] 3 (0, 0))) (hr : w.heap[Br]? = some (.cells #[.int .i64 r] 3 (0, 0))) (hne : Br ≠ Bs) (hc : reed_Check.f (s.size : Int) r = some t) :
  Calls Try.prog 73 #[.string s, .pointer (some ⟨Bs, 0, none⟩), .pointer (some ⟨Br, 0, none⟩)] w fun e w' => e = .returned (.int .i64 (msgTold t (msgSum r sum s))) ∧ Drawn0 (w.setCell ⟨Bs, 0, none⟩ (.int .i64 (msgSum r sum s))) w' := by
 have HS := Aside0.mk hs
 have HR := Aside0.mk hr
 have A := Aside0.mk hc
 have hz1 : w.cell? ⟨Bs, 0, none⟩ = some (.int .i64 sum) := (blk_cell hs 0).trans rfl
 have hz2 := blk_frozen hs 0
 have hz3 : w.cell? ⟨Br, 0, none⟩ = some (.int .i64 r) := (blk_cell hr 0).trans rfl
 clear hs hr hc
 go_enter Try.func73, Try.ntmps73
 by_cases ht : t = 0
 ·have hb0 : (t != 0) = false := bne_eq_false_iff_eq.mpr ht
  by_cases hs3 : msgSum r sum s > 32768
  ·have hb1 : decide (msgSum r sum s > 32768) = true := decide_eq_true hs3
   have hm : msgTold t (msgSum r sum s) = 1 := by unfold msgTold; rw [if_pos ht, if_pos hs3]
   rw [hm]
   go_wp2_with (first | ((with_reducible refine gate_store (t := 3) (p := 1) rfl ?_); refine store_event (t := 3) (p := 1) (v := ?vo) (w1 := (w.setCell ⟨Bs, 0, none⟩ (.int .i64 (msgSum r sum s)))) ?hg ?ho ?hn ?hr ?_; (case ho => rfl); (case hg => rfl); (case hn => rfl); (case hr => first | (go_simp; done) | (go_simp; rfl)); intro w2 hw; have hy1 : w2.cell? ⟨Bs, 0, none⟩ = some (.int .i64 (msgSum r sum s)) := (by rw [hw]; exact (blk_cell (blk_set HS.out 0 _) 0).trans rfl); have hy3 : w2.cell? ⟨Br, 0, none⟩ = some (.int .i64 r) := (by rw [hw]; exact (blk_cell (blk_far HR.out (by exact hne) _) 0).trans rfl); have HW := Aside0.mk hw; clear hw hz1 hz2 hz3) | ((with_reducible refine gate_callee (f := 34) rfl ?_); refine goesL_ (some 14) rfl rfl Try.func34 (by kernel_rfl) rfl #[.int .i64 (s.size : Int), .int .i64 r] rfl (by (try simp only [List.map_toArray, List.map_cons, List.map_nil]); first | done | rfl) ?_; (with_reducible refine (reed_Check.calls (s.size : Int) r t _ A.out).mono ?_); rintro e w' ⟨rfl, ⟨nd, rfl⟩⟩; refine ⟨_, rfl, ?_⟩; have hy1n := hy1; have hy1d : (w2.drewN nd).cell? ⟨Bs, 0, none⟩ = some (.int .i64 (msgSum r sum s)) := hy1; clear hy1n))
   go_ret
   exact ⟨rfl, by rw [← HW.out]; exact ⟨_, rfl⟩⟩
  ·have hb1 : decide (msgSum r sum s > 32768) = false := decide_eq_false hs3
   have hm : msgTold t (msgSum r sum s) = 0 := by unfold msgTold; rw [if_pos ht, if_neg hs3]
   rw [hm]
   go_wp2_with (first | ((with_reducible refine gate_store (t := 3) (p := 1) rfl ?_); refine store_event (t := 3) (p := 1) (v := ?vo) (w1 := (w.setCell ⟨Bs, 0, none⟩ (.int .i64 (msgSum r sum s)))) ?hg ?ho ?hn ?hr ?_; (case ho => rfl); (case hg => rfl); (case hn => rfl); (case hr => first | (go_simp; done) | (go_simp; rfl)); intro w2 hw; have hy1 : w2.cell? ⟨Bs, 0, none⟩ = some (.int .i64 (msgSum r sum s)) := (by rw [hw]; exact (blk_cell (blk_set HS.out 0 _) 0).trans rfl); have hy3 : w2.cell? ⟨Br, 0, none⟩ = some (.int .i64 r) := (by rw [hw]; exact (blk_cell (blk_far HR.out (by exact hne) _) 0).trans rfl); have HW := Aside0.mk hw; clear hw hz1 hz2 hz3) | ((with_reducible refine gate_callee (f := 34) rfl ?_); refine goesL_ (some 14) rfl rfl Try.func34 (by kernel_rfl) rfl #[.int .i64 (s.size : Int), .int .i64 r] rfl (by (try simp only [List.map_toArray, List.map_cons, List.map_nil]); first | done | rfl) ?_; (with_reducible refine (reed_Check.calls (s.size : Int) r t _ A.out).mono ?_); rintro e w' ⟨rfl, ⟨nd, rfl⟩⟩; refine ⟨_, rfl, ?_⟩; have hy1n := hy1; have hy1d : (w2.drewN nd).cell? ⟨Bs, 0, none⟩ = some (.int .i64 (msgSum r sum s)) := hy1; clear hy1n))
   go_ret
   exact ⟨rfl, by rw [← HW.out]; exact ⟨_, rfl⟩⟩
 ·have hb0 : (t != 0) = true := bne_iff_ne.mpr ht
  have hm : msgTold t (msgSum r sum s) = 1 := by unfold msgTold; rw [if_neg ht]
  rw [hm]
  go_wp2_with (first | ((with_reducible refine gate_store (t := 3) (p := 1) rfl ?_); refine store_event (t := 3) (p := 1) (v := ?vo) (w1 := (w.setCell ⟨Bs, 0, none⟩ (.int .i64 (msgSum r sum s)))) ?hg ?ho ?hn ?hr ?_; (case ho => rfl); (case hg => rfl); (case hn => rfl); (case hr => first | (go_simp; done) | (go_simp; rfl)); intro w2 hw; have hy1 : w2.cell? ⟨Bs, 0, none⟩ = some (.int .i64 (msgSum r sum s)) := (by rw [hw]; exact (blk_cell (blk_set HS.out 0 _) 0).trans rfl); have hy3 : w2.cell? ⟨Br, 0, none⟩ = some (.int .i64 r) := (by rw [hw]; exact (blk_cell (blk_far HR.out (by exact hne) _) 0).trans rfl); have HW := Aside0.mk hw; clear hw hz1 hz2 hz3) | ((with_reducible refine gate_callee (f := 34) rfl ?_); refine goesL_ (some 14) rfl rfl Try.func34 (by kernel_rfl) rfl #[.int .i64 (s.size : Int), .int .i64 r] rfl (by (try simp only [List.map_toArray, List.map_cons, List.map_nil]); first | done | rfl) ?_; (with_reducible refine (reed_Check.calls (s.size : Int) r t _ A.out).mono ?_); rintro e w' ⟨rfl, ⟨nd, rfl⟩⟩; refine ⟨_, rfl, ?_⟩; have hy1n := hy1; have hy1d : (w2.drewN nd).cell? ⟨Bs, 0, none⟩ = some (.int .i64 (msgSum r sum s)) := hy1; clear hy1n))
  go_ret
  exact ⟨rfl, by rw [← HW.out]; exact ⟨_, rfl⟩⟩
set_option maxHeartbeats 8000000 in
set_option maxRecDepth 100000 in
theorem msgB_each73 {α : Type} (step : α → ByteArray → Option (α × Int)) (St : α → World → Prop) (words : List ByteArray) (A : Option Addr) (c Bw B1 B2 : Nat) (hl : words.length ≤ 140737488355328)
  (hread : ∀ a W, St a W → W.cell? ⟨Bw, 0, none⟩ = some (.slice A words.length c) ∧ ∀ j (hj : j < words.length), ∃ ad, A = some ad ∧ W.cell? (ad.add j) = some (.string words[j]))
  (hstep : ∀ a s q W, step a s = some q → St a W → Calls Try.prog 73 #[.string s, .pointer (some ⟨B1, 0, none⟩), .pointer (some ⟨B2, 0, none⟩)] W fun e W' => e = .returned (.int .i64 q.2) ∧ St q.1 W')
  (a0 : α) (p : α × Int) (w : World) (h0 : St a0 w) (h : msgRun step a0 words = some p) :
  Calls Try.prog 72 #[.func (.func 73) #[] #[.pointer (some ⟨B1, 0, none⟩), .pointer (some ⟨B2, 0, none⟩)], .pointer (some ⟨Bw, 0, none⟩)] w fun e w' => e = .returned (.int .i64 p.2) ∧ St p.1 w' := by
 have HR := Aside0.mk hread
 have HS := Aside0.mk hstep
 have H0 := Aside0.mk h0
 have HL := Aside0.mk hl
 have H := Aside0.mk h
 have hz := (hread a0 w h0).1
 clear hread hstep h0 hl h
 go_enter Try.func72, Try.ntmps72
 go_wp2
 clear hz
 go_loopw [9] (fun i wr => ∃ (j : Nat) (a : α), i = .int .i64 (j : Int) ∧ Aside0 (j ≤ words.length) ∧ Aside0 (St a wr) ∧ Aside0 (msgRun step a (words.drop j) = some p)) (fun i _ => words.length - (intOf i).toNat)
 case atStart => exact ⟨0, a0, rfl, ⟨Nat.zero_le _⟩, H0, H⟩
 case round =>
  obtain ⟨j, a, rfl, HJ, HA, HE⟩ := hrel
  by_cases hj : j < words.length
  ·obtain ⟨ad, hA, hc⟩ := (HR.out a wr HA.out).2 j hj
   subst hA
   have hb : decide ((j : Int) < (words.length : Int)) = true := decide_eq_true (by omega)
   have hp : (0 ≤ (j : Int)) = True := eq_true (by omega)
   have hq : ((j : Int) < (words.length : Int)) = True := eq_true (by omega)
   have hq2 : (j < words.length) = True := eq_true hj
   have hd : words.drop j = words[j] :: words.drop (j + 1) := List.drop_eq_getElem_cons hj
   have HE2 := HE.out
   rw [hd, msgRun] at HE2
   obtain ⟨⟨a2, t⟩, hqs, HE4⟩ := Option.bind_eq_some_iff.mp HE2
   clear HE2
   have HX := Aside0.mk (HS.out a (words[j]) _ wr hqs HA.out)
   clear hqs
   by_cases ht : t = 0
   ·rw [if_pos ht] at HE4
    have HE3 := Aside0.mk HE4
    clear HE4
    have hb0 : (t != 0) = false := bne_eq_false_iff_eq.mpr ht
    have hw : wrap64 ((j : Int) + 1) = ((j + 1 : Nat) : Int) := by have := HL.out; unfold wrap64; omega
    as_aux_lemma =>
     go_wp2_with (first | (go_at_call 73; (refine HX.out.mono ?_); rintro e w2 ⟨rfl, hst⟩; have HST := Aside0.mk hst; clear hst))
     go_roundw
     case rel => exact ⟨j + 1, a2, by rw [hw], ⟨hj⟩, HST, HE3⟩
     case measure =>
      rw [hw]
      show words.length - (((j + 1 : Nat) : Int)).toNat < words.length - ((j : Int)).toNat
      rw [Int.toNat_natCast, Int.toNat_natCast]
      exact Nat.sub_lt_sub_left hj (Nat.lt_succ_self j)
   ·rw [if_neg ht] at HE4
    have HE3 := Aside0.mk (Option.some.inj HE4)
    clear HE4
    have hb0 : (t != 0) = true := bne_iff_ne.mpr ht
    as_aux_lemma =>
     go_wp2_with (first | (go_at_call 73; (refine HX.out.mono ?_); rintro e w2 ⟨rfl, hst⟩; have HST := Aside0.mk hst; clear hst))
     go_ret
     exact ⟨by rw [← HE3.out]; rfl, by rw [← HE3.out]; exact HST.out⟩
  ·have hb : decide ((j : Int) < (words.length : Int)) = false := decide_eq_false (by omega)
   have hd : words.drop j = [] := List.drop_of_length_le (by omega)
   have HE2 := HE.out
   rw [hd, msgRun] at HE2
   have HE3 := Aside0.mk (Option.some.inj HE2)
   clear HE2
   as_aux_lemma =>
    go_wp2
    go_ret
    exact ⟨by rw [← HE3.out]; rfl, by rw [← HE3.out]; exact HA.out⟩
set_option maxHeartbeats 8000000 in
set_option maxRecDepth 100000 in
theorem msgB_each74 {α : Type} (step : α → ByteArray → Option (α × Int)) (St : α → World → Prop) (words : List ByteArray) (A : Option Addr) (c Bw B1 B2 : Nat) (hl : words.length ≤ 140737488355328)
  (hread : ∀ a W, St a W → W.cell? ⟨Bw, 0, none⟩ = some (.slice A words.length c) ∧ ∀ j (hj : j < words.length), ∃ ad, A = some ad ∧ W.cell? (ad.add j) = some (.string words[j]))
  (hstep : ∀ a s q W, step a s = some q → St a W → Calls Try.prog 74 #[.string s, .pointer (some ⟨B1, 0, none⟩), .pointer (some ⟨B2, 0, none⟩)] W fun e W' => e = .returned (.int .i64 q.2) ∧ St q.1 W')
  (a0 : α) (p : α × Int) (w : World) (h0 : St a0 w) (h : msgRun step a0 words = some p) :
  Calls Try.prog 72 #[.func (.func 74) #[] #[.pointer (some ⟨B1, 0, none⟩), .pointer (some ⟨B2, 0, none⟩)], .pointer (some ⟨Bw, 0, none⟩)] w fun e w' => e = .returned (.int .i64 p.2) ∧ St p.1 w' := by
 have HR := Aside0.mk hread
 have HS := Aside0.mk hstep
 have H0 := Aside0.mk h0
 have HL := Aside0.mk hl
 have H := Aside0.mk h
 have hz := (hread a0 w h0).1
 clear hread hstep h0 hl h
 go_enter Try.func72, Try.ntmps72
 go_wp2
 clear hz
 go_loopw [9] (fun i wr => ∃ (j : Nat) (a : α), i = .int .i64 (j : Int) ∧ Aside0 (j ≤ words.length) ∧ Aside0 (St a wr) ∧ Aside0 (msgRun step a (words.drop j) = some p)) (fun i _ => words.length - (intOf i).toNat)
 case atStart => exact ⟨0, a0, rfl, ⟨Nat.zero_le _⟩, H0, H⟩
 case round =>
  obtain ⟨j, a, rfl, HJ, HA, HE⟩ := hrel
  by_cases hj : j < words.length
  ·obtain ⟨ad, hA, hc⟩ := (HR.out a wr HA.out).2 j hj
   subst hA
   have hb : decide ((j : Int) < (words.length : Int)) = true := decide_eq_true (by omega)
   have hp : (0 ≤ (j : Int)) = True := eq_true (by omega)
   have hq : ((j : Int) < (words.length : Int)) = True := eq_true (by omega)
   have hq2 : (j < words.length) = True := eq_true hj
   have hd : words.drop j = words[j] :: words.drop (j + 1) := List.drop_eq_getElem_cons hj
   have HE2 := HE.out
   rw [hd, msgRun] at HE2
   obtain ⟨⟨a2, t⟩, hqs, HE4⟩ := Option.bind_eq_some_iff.mp HE2
   clear HE2
   have HX := Aside0.mk (HS.out a (words[j]) _ wr hqs HA.out)
   clear hqs
   by_cases ht : t = 0
   ·rw [if_pos ht] at HE4
    have HE3 := Aside0.mk HE4
    clear HE4
    have hb0 : (t != 0) = false := bne_eq_false_iff_eq.mpr ht
    have hw : wrap64 ((j : Int) + 1) = ((j + 1 : Nat) : Int) := by have := HL.out; unfold wrap64; omega
    as_aux_lemma =>
     go_wp2_with (first | (go_at_call 74; (refine HX.out.mono ?_); rintro e w2 ⟨rfl, hst⟩; have HST := Aside0.mk hst; clear hst))
     go_roundw
     case rel => exact ⟨j + 1, a2, by rw [hw], ⟨hj⟩, HST, HE3⟩
     case measure =>
      rw [hw]
      show words.length - (((j + 1 : Nat) : Int)).toNat < words.length - ((j : Int)).toNat
      rw [Int.toNat_natCast, Int.toNat_natCast]
      exact Nat.sub_lt_sub_left hj (Nat.lt_succ_self j)
   ·rw [if_neg ht] at HE4
    have HE3 := Aside0.mk (Option.some.inj HE4)
    clear HE4
    have hb0 : (t != 0) = true := bne_iff_ne.mpr ht
    as_aux_lemma =>
     go_wp2_with (first | (go_at_call 74; (refine HX.out.mono ?_); rintro e w2 ⟨rfl, hst⟩; have HST := Aside0.mk hst; clear hst))
     go_ret
     exact ⟨by rw [← HE3.out]; rfl, by rw [← HE3.out]; exact HST.out⟩
  ·have hb : decide ((j : Int) < (words.length : Int)) = false := decide_eq_false (by omega)
   have hd : words.drop j = [] := List.drop_of_length_le (by omega)
   have HE2 := HE.out
   rw [hd, msgRun] at HE2
   have HE3 := Aside0.mk (Option.some.inj HE2)
   clear HE2
   as_aux_lemma =>
    go_wp2
    go_ret
    exact ⟨by rw [← HE3.out]; rfl, by rw [← HE3.out]; exact HA.out⟩
theorem msgB_isB_below {T e B b : Nat} {bs : List Value} {w w1 : World} (h : Lib.IsBuilder T e B b bs w) (hb : Below w.heap.size w w1) : Lib.IsBuilder T e B b bs w1 := by
 have key : ∀ p, Lib.BuilderAt T e B b p bs w → Lib.BuilderAt T e B b p bs w1 := fun p hp => by
  have hlt := hp.lt
  obtain ⟨hB, v, hh, hown, hne⟩ := hp
  refine ⟨hB, v, (hb.block b hlt).trans hh, ?_, hne⟩
  exact pw_own_below hown hb
 exact h.elim (fun p => .inl (key _ p)) (fun p => .inr (key _ p))
set_option maxHeartbeats 8000000 in
set_option maxRecDepth 100000 in
theorem msgB_msg3_calls (k : Nat) (s d : ByteArray) (r t : Int) (Br b B0 : Nat) (bs : List Value) (w : World) (hr : w.heap[Br]? = some (.cells #[.int .i64 r] 3 (0, 0))) (hb : Lib.IsBuilder 97 5 B0 b bs w) (hBr : Br < B0) (hB0 : B0 ≤ w.heap.size) (hlen : bs.length + d.size ≤ 140737488355328) (hc : reed_Data.f k s r = some (d, t)) :
  Calls Try.prog 74 #[.string s, .pointer (some ⟨Br, 0, none⟩), .pointer (some ⟨b, 0, none⟩)] w fun e w' => e = .returned (.int .i64 t) ∧ Lib.IsBuilder 97 5 B0 b (bs ++ Lib.strCells d) w' ∧ Below B0 w w' := by
 have HBD := Aside0.mk hb
 have A := Aside0.mk hc
 have HBr := Aside0.mk hBr
 have HB0 := Aside0.mk hB0
 have HL := Aside0.mk hlen
 have hz3 : w.cell? ⟨Br, 0, none⟩ = some (.int .i64 r) := (blk_cell hr 0).trans rfl
 clear hr hb hc hBr hB0 hlen
 go_enter Try.func74, Try.ntmps74
 go_wp2_with (first | ((with_reducible refine gate_callee (f := 27) rfl ?_); refine goesL_ (some 10) rfl rfl Try.func27 (by kernel_rfl) rfl #[.string s, .int .i64 r] rfl (by (try simp only [List.map_toArray, List.map_cons, List.map_nil]); first | done | rfl) ?_; (with_reducible refine (reed_Data.calls k s r d t _ A.out).mono ?_); rintro e w1 ⟨rfl, hbel⟩; refine ⟨_, rfl, ?_⟩; have HBD1 := Aside0.mk (msgB_isB_below HBD.out hbel); have HBL := Aside0.mk hbel; clear hbel) | ((with_reducible refine gate_callee (f := 75) rfl ?_); refine goesL_ (some 14) rfl rfl Try.func75 (by kernel_rfl) rfl #[.pointer (some ⟨b, 0, none⟩), .string d] rfl (by (try simp only [List.map_toArray, List.map_cons, List.map_nil]); first | done | rfl) ?_; (refine (msgB_write B0 b bs d _ HBD1.out HL.out (Nat.le_trans HB0.out HBL.out.size)).mono ?_); rintro e w2 ⟨rfl, hba, hbel2⟩; refine ⟨_, rfl, ?_⟩; have HBA := Aside0.mk hba; have HBL2 := Aside0.mk hbel2; clear hba hbel2))
 go_ret
 exact ⟨rfl, .inr HBA.out, (HBL.out.mono HB0.out).trans HBL2.out⟩
/-- The words and the boxes, as the closures find them. -/
def MsgAt (A0 : Option Addr) (c0 : Nat) (l0 : List ByteArray) (a1 : Int) (gw gr : Nat) (w W : World) : Prop := W.heap[gr]? = some (.cells #[.int .i64 a1] 3 (0, 0)) ∧ W.heap[gw]? = some (.cells #[.slice A0 l0.length c0] 41 (0, 0)) ∧ Below w.heap.size w W
theorem MsgAt.read {A0 : Option Addr} {c0 : Nat} {l0 : List ByteArray} {a1 : Int} {gw gr : Nat} {w W : World} (hr0 : Kd.string.C w A0 l0.length l0) (h : MsgAt A0 c0 l0 a1 gw gr w W) :
  W.cell? ⟨gw, 0, none⟩ = some (.slice A0 l0.length c0) ∧ ∀ j (hj : j < l0.length), ∃ ad, A0 = some ad ∧ W.cell? (ad.add j) = some (.string l0[j]) := by
 refine ⟨(blk_cell h.2.1 0).trans rfl, fun j hj => ?_⟩
 obtain ⟨ad, e, hc⟩ := Kd.at_string (Kd.C_below hr0 h.2.2) (j : Int) (by omega) (by omega)
 refine ⟨ad, e, ?_⟩
 rw [Int.toNat_natCast] at hc
 rw [hc]
 show some (Value.string (List.getD _ _ _)) = _
 rw [Int.toNat_natCast, List.getD_eq_getElem?_getD, List.getElem?_eq_getElem hj]
 rfl
theorem msgB_step1_calls {A0 : Option Addr} {c0 : Nat} {l0 : List ByteArray} {a1 : Int} {gw gr gs : Nat} {w : World} (h1 : gw < gr) (h2 : gr < gs) (h0 : w.heap.size ≤ gw) (a : Int) (s : ByteArray) (q : Int × Int) (W : World)
  (hq : msgStep1 a1 a s = some q) (h : W.heap[gs]? = some (.cells #[.int .i64 a] 3 (0, 0)) ∧ MsgAt A0 c0 l0 a1 gw gr w W) :
  Calls Try.prog 73 #[.string s, .pointer (some ⟨gs, 0, none⟩), .pointer (some ⟨gr, 0, none⟩)] W fun e W' => e = .returned (.int .i64 q.2) ∧ (W'.heap[gs]? = some (.cells #[.int .i64 q.1] 3 (0, 0)) ∧ MsgAt A0 c0 l0 a1 gw gr w W') := by
 obtain ⟨t, ht, rfl⟩ := Option.map_eq_some_iff.1 hq
 refine (msgB_msg2_calls s a1 a t gs gr W h.1 h.2.1 (by omega) ht).mono ?_
 rintro e W' ⟨rfl, nd, rfl⟩
 refine ⟨rfl, blk_drewN (blk_set h.1 0 (.int .i64 (msgSum a1 a s))) nd, blk_drewN (blk_far h.2.1 (show gr ≠ gs by omega) _) nd, blk_drewN (blk_far h.2.2.1 (show gw ≠ gs by omega) _) nd, pw_below_drewN (h.2.2.2.setCell (show w.heap.size ≤ gs by omega) _) nd⟩
theorem msgB_strCells_eq (d : ByteArray) : Lib.strCells d = Lib.byteCells d.data.toList := rfl
theorem msgB_step2_calls {k : Nat} {A0 : Option Addr} {c0 : Nat} {l0 : List ByteArray} {a1 : Int} {gw gr gb B0 : Nat} {w : World} (h1 : gw < gr) (h2 : gr < B0) (h0 : w.heap.size ≤ gw) (a : List UInt8) (s : ByteArray) (q : List UInt8 × Int) (W : World)
  (hq : msgStep2 k a1 a s = some q) (h : Lib.IsBuilder 97 5 B0 gb (Lib.byteCells a) W ∧ B0 ≤ W.heap.size ∧ MsgAt A0 c0 l0 a1 gw gr w W) :
  Calls Try.prog 74 #[.string s, .pointer (some ⟨gr, 0, none⟩), .pointer (some ⟨gb, 0, none⟩)] W fun e W' => e = .returned (.int .i64 q.2) ∧ (Lib.IsBuilder 97 5 B0 gb (Lib.byteCells q.1) W' ∧ B0 ≤ W'.heap.size ∧ MsgAt A0 c0 l0 a1 gw gr w W') := by
 obtain ⟨⟨d, t⟩, hd, hq⟩ := Option.bind_eq_some_iff.1 hq
 by_cases hl : a.length + d.size ≤ 140737488355328
 ·rw [if_pos hl] at hq
  obtain rfl := Option.some.inj hq
  refine (msgB_msg3_calls k s d a1 t gr gb B0 (Lib.byteCells a) W h.2.2.1 h.1 h2 h.2.1 (by unfold Lib.byteCells; rw [List.length_map]; exact hl) hd).mono ?_
  rintro e W' ⟨rfl, hb, hbl⟩
  refine ⟨rfl, ?_, Nat.le_trans h.2.1 hbl.size, (hbl.block gr h2).trans h.2.2.1, (hbl.block gw (by omega)).trans h.2.2.2.1, h.2.2.2.2.trans (hbl.mono (by omega))⟩
  have e : Lib.byteCells (a ++ d.data.toList) = Lib.byteCells a ++ Lib.strCells d := by rw [msgB_strCells_eq]; unfold Lib.byteCells; rw [List.map_append]
  show Lib.IsBuilder 97 5 B0 gb (Lib.byteCells (a ++ d.data.toList)) W'
  rw [e]
  exact hb
 ·rw [if_neg hl] at hq; cases hq
theorem msgB_call1 {A0 : Option Addr} {c0 : Nat} {l0 : List ByteArray} {a1 : Int} {gw gr gs : Nat} {w : World} (h1 : gw < gr) (h2 : gr < gs) (h0 : w.heap.size ≤ gw) (hl : l0.length ≤ 140737488355328) (hr0 : Kd.string.C w A0 l0.length l0) (W : World)
  (hs : W.heap[gs]? = some (.cells #[.int .i64 0] 3 (0, 0))) (hm : MsgAt A0 c0 l0 a1 gw gr w W) (sum t : Int) (h : msgRun (msgStep1 a1) 0 l0 = some (sum, t)) :
  Calls Try.prog 72 #[.func (.func 73) #[] #[.pointer (some ⟨gs, 0, none⟩), .pointer (some ⟨gr, 0, none⟩)], .pointer (some ⟨gw, 0, none⟩)] W fun e W' => e = .returned (.int .i64 t) ∧ (W'.heap[gs]? = some (.cells #[.int .i64 sum] 3 (0, 0)) ∧ MsgAt A0 c0 l0 a1 gw gr w W') :=
 msgB_each73 (msgStep1 a1) (fun a W => W.heap[gs]? = some (.cells #[.int .i64 a] 3 (0, 0)) ∧ MsgAt A0 c0 l0 a1 gw gr w W) l0 A0 c0 gw gs gr hl (fun a W h => MsgAt.read hr0 h.2) (fun a s q W hq h => msgB_step1_calls h1 h2 h0 a s q W hq h) 0 (sum, t) W ⟨hs, hm⟩ h
theorem msgB_call2 {k : Nat} {A0 : Option Addr} {c0 : Nat} {l0 : List ByteArray} {a1 : Int} {gw gr gb B0 : Nat} {w : World} (h1 : gw < gr) (h2 : gr < B0) (h0 : w.heap.size ≤ gw) (hl : l0.length ≤ 140737488355328) (hr0 : Kd.string.C w A0 l0.length l0) (W : World)
  (hs : Lib.IsBuilder 97 5 B0 gb [] W) (hB : B0 ≤ W.heap.size) (hm : MsgAt A0 c0 l0 a1 gw gr w W) (bs : List UInt8) (t : Int) (h : msgRun (msgStep2 k a1) [] l0 = some (bs, t)) :
  Calls Try.prog 72 #[.func (.func 74) #[] #[.pointer (some ⟨gr, 0, none⟩), .pointer (some ⟨gb, 0, none⟩)], .pointer (some ⟨gw, 0, none⟩)] W fun e W' => e = .returned (.int .i64 t) ∧ (Lib.IsBuilder 97 5 B0 gb (Lib.byteCells bs) W' ∧ B0 ≤ W'.heap.size ∧ MsgAt A0 c0 l0 a1 gw gr w W') :=
 msgB_each74 (msgStep2 k a1) (fun a W => Lib.IsBuilder 97 5 B0 gb (Lib.byteCells a) W ∧ B0 ≤ W.heap.size ∧ MsgAt A0 c0 l0 a1 gw gr w W) l0 A0 c0 gw gr gb hl (fun a W h => MsgAt.read hr0 h.2.2) (fun a s q W hq h => msgB_step2_calls h1 h2 h0 a s q W hq h) [] (bs, t) W ⟨hs, hB, hm⟩ h
theorem msgB_bld_new {w : World} {gb : Nat} (h : w.heap[gb]? = some (.cells #[.pointer none, .slice none 0 0] 97 (0, 0))) : Lib.IsBuilder 97 5 gb gb [] w :=
 .inl ⟨Nat.le_refl _, .slice none 0 0, h, ⟨rfl, .inl ⟨rfl, rfl⟩⟩, by simp [Value.ownBlock]⟩
set_option maxHeartbeats 8000000 in
set_option maxRecDepth 100000 in
theorem reed_Message.calls (k : Nat) (A0 : Option Addr) (c0 : Nat) (l0 : List ByteArray) (a1 : Int) (r1 : ByteArray) (r2 : Int) (w : World) (hr0 : Kd.string.C w A0 l0.length l0) (hc0 : l0.length ≤ c0) (h : reed_Message.f k l0 a1 = some (r1, r2)) :
  Calls Try.prog 32 #[.slice A0 l0.length c0, .int .i64 a1] w fun e w' => e = .returned (.tuple #[.string r1, .int .i64 r2]) ∧ Below w.heap.size w w' := by
 have HC0 := Aside0.mk hr0
 clear hr0 hc0
 unfold reed_Message.f at h
 by_cases hlen : l0.length ≤ 140737488355328
 ·rw [if_pos hlen] at h
  have HLEN := Aside0.mk hlen
  clear hlen
  obtain ⟨b, hb, h⟩ := Option.bind_eq_some_iff.mp h
  have CK := Aside0.mk hb
  clear hb
  by_cases cb : b = true
  ·subst cb
   rw [if_pos rfl] at h
   obtain ⟨⟨sum, t1⟩, h1, h⟩ := Option.bind_eq_some_iff.mp h
   have M1 := Aside0.mk h1
   clear h1
   by_cases ct : t1 = 0
   ·subst ct
    rw [if_pos rfl] at h
    obtain ⟨⟨bs, t2⟩, h2, h⟩ := Option.bind_eq_some_iff.mp h
    have M2 := Aside0.mk h2
    clear h2
    by_cases c2 : t2 = 0
    ·subst c2
     rw [if_pos rfl] at h
     have H := Aside0.mk (Option.some.inj h)
     clear h
     as_aux_lemma =>
      go_enter Try.func32, Try.ntmps32
      go_wp2_with (first | ((with_reducible refine gate_dst (N := 2) rfl ?_); refine box_event ?hg (N := 2) ?hd (cs := #[.slice A0 l0.length c0]) (t := 41) ?hr ?_; (case hd => rfl); (case hg => rfl); (case hr => first | (go_simp; done) | (go_simp; rfl)); intro gw hgw w1 hbx hbl; have GW := Aside0.mk hgw; have BW := Aside0.mk hbx; have LB := Aside0.mk hbl; clear hgw hbx hbl) | ((with_reducible refine gate_dst (N := 3) rfl ?_); refine box_event ?hg (N := 3) ?hd (cs := #[.int .i64 a1]) (t := 3) ?hr ?_; (case hd => rfl); (case hg => rfl); (case hr => first | (go_simp; done) | (go_simp; rfl)); intro gr hgr w2 hbx hbl; have GR := Aside0.mk hgr; have BR := Aside0.mk hbx; have HLT1 := Aside0.mk (show gw < gr from by rw [hgr]; exact blk_lt BW.out); replace BW := Aside0.mk ((hbl.block gw (blk_lt BW.out)).trans BW.out); replace LB := Aside0.mk (LB.out.trans (hbl.mono LB.out.size)); have hzr : w2.cell? ⟨gr, 0, none⟩ = some (.int .i64 a1) := (blk_cell BR.out 0).trans rfl; clear hgr hbx hbl) | ((with_reducible refine gate_callee (f := 71) rfl ?_); refine goesL_ (some 11) rfl rfl Try.func71 (by kernel_rfl) rfl #[.int .i64 a1] rfl (by (try simp only [List.map_toArray, List.map_cons, List.map_nil]); first | done | rfl) ?_; (with_reducible refine (reed_checks.calls a1 _ _ CK.out).mono ?_); rintro e w' ⟨rfl, ⟨nd, rfl⟩⟩; refine ⟨_, rfl, ?_⟩; clear hzr; obtain ⟨w3, hw3⟩ : ∃ w3, w3 = w2.drewN nd := ⟨_, rfl⟩; rw [← hw3]; replace BR := Aside0.mk (show w3.heap[gr]? = some (.cells #[.int .i64 a1] 3 (0, 0)) from by rw [hw3]; exact blk_drewN BR.out nd); replace BW := Aside0.mk (show w3.heap[gw]? = some (.cells #[.slice A0 l0.length c0] 41 (0, 0)) from by rw [hw3]; exact blk_drewN BW.out nd); replace LB := Aside0.mk (show Below w.heap.size w w3 from by rw [hw3]; exact pw_below_drewN LB.out nd); clear hw3) | ((with_reducible refine gate_dst (N := 7) rfl ?_); refine box_event ?hg (N := 7) ?hd (cs := #[.int .i64 0]) (t := 3) ?hr ?_; (case hd => rfl); (case hg => rfl); (case hr => first | (go_simp; done) | (go_simp; rfl)); intro gs hgs w4 hbx hbl; have BS := Aside0.mk hbx; have HLT2 := Aside0.mk (show gr < gs from by rw [hgs]; exact blk_lt BR.out); replace BW := Aside0.mk ((hbl.block gw (blk_lt BW.out)).trans BW.out); replace BR := Aside0.mk ((hbl.block gr (blk_lt BR.out)).trans BR.out); replace LB := Aside0.mk (LB.out.trans (hbl.mono LB.out.size)); have hzs : w4.cell? ⟨gs, 0, none⟩ = some (.int .i64 0) := (blk_cell BS.out 0).trans rfl; have hfs := blk_frozen BS.out 0; clear hgs hbx hbl) | ((with_reducible refine gate_store (t := 3) (p := 7) rfl ?_); refine store_event (t := 3) (p := 7) (v := ?vo) (w1 := (w4.setCell ⟨gs, 0, none⟩ (.int .i64 0))) ?hg ?ho ?hn ?hr ?_; (case ho => rfl); (case hg => rfl); (case hn => rfl); (case hr => first | (go_simp; done) | (go_simp; rfl)); intro w5 hw; have BS5 := Aside0.mk (show w5.heap[gs]? = some (.cells #[.int .i64 0] 3 (0, 0)) from by rw [hw]; exact blk_set BS.out 0 (.int .i64 0)); have BR5 := Aside0.mk (show w5.heap[gr]? = some (.cells #[.int .i64 a1] 3 (0, 0)) from by rw [hw]; exact blk_far BR.out (Nat.ne_of_lt HLT2.out) _); have BW5 := Aside0.mk (show w5.heap[gw]? = some (.cells #[.slice A0 l0.length c0] 41 (0, 0)) from by rw [hw]; exact blk_far BW.out (Nat.ne_of_lt (Nat.lt_trans HLT1.out HLT2.out)) _); have LB5 := Aside0.mk (show Below w.heap.size w w5 from by rw [hw]; exact LB.out.setCell (show w.heap.size ≤ gs from Nat.le_trans (Nat.le_of_eq GW.out.symm) (Nat.le_of_lt (Nat.lt_trans HLT1.out HLT2.out))) _); have HM5 := Aside0.mk (show MsgAt A0 c0 l0 a1 gw gr w w5 from ⟨BR5.out, BW5.out, LB5.out⟩); clear hw hzs hfs BS BR BW LB) | (go_at_call 72; (with_reducible refine (msgB_call1 HLT1.out HLT2.out (Nat.le_of_eq GW.out.symm) HLEN.out HC0.out _ BS5.out HM5.out sum _ M1.out).mono ?_); rintro e w6 ⟨rfl, hs6⟩; have S6 := Aside0.mk hs6; clear hs6) | ((with_reducible refine gate_dst (N := 9) rfl ?_); refine box_event ?hg (N := 9) ?hd (cs := #[.pointer none, .slice none 0 0]) (t := 97) ?hr ?_; (case hd => rfl); (case hg => rfl); (case hr => first | (go_simp; done) | (go_simp; rfl)); intro gb hgb w7 hbx hbl; have HLT3 := Aside0.mk (show gr < gb from by rw [hgb]; exact blk_lt S6.out.2.1); have HBD := Aside0.mk (msgB_bld_new hbx); have HLE := Aside0.mk (Nat.le_of_lt (blk_lt hbx)); have HM := Aside0.mk (show MsgAt A0 c0 l0 a1 gw gr w w7 from ⟨(hbl.block gr (blk_lt S6.out.2.1)).trans S6.out.2.1, (hbl.block gw (blk_lt S6.out.2.2.1)).trans S6.out.2.2.1, S6.out.2.2.2.trans (hbl.mono S6.out.2.2.2.size)⟩); clear hgb hbx hbl) | (go_at_call 72; (with_reducible refine (msgB_call2 (k := k) HLT1.out HLT3.out (Nat.le_of_eq GW.out.symm) HLEN.out HC0.out _ HBD.out HLE.out HM.out bs _ M2.out).mono ?_); rintro e w8 ⟨rfl, hs8⟩; have S8 := Aside0.mk hs8; clear hs8) | ((with_reducible refine gate_callee (f := 76) rfl ?_); refine goesL_ (some 26) rfl rfl Try.func76 (by kernel_rfl) rfl #[.pointer (some ⟨gb, 0, none⟩)] rfl (by (try simp only [List.map_toArray, List.map_cons, List.map_nil]); first | done | rfl) ?_; (refine (msgB_string gb gb bs _ S8.out.1 S8.out.2.1).mono ?_); rintro e w9 ⟨rfl, hb9⟩; refine ⟨_, rfl, ?_⟩; have S9 := Aside0.mk hb9; clear hb9))
      go_ret2
      have hH := H.out
      simp only [Prod.mk.injEq] at hH
      obtain ⟨rfl, rfl⟩ := hH
      exact ⟨rfl, S8.out.2.2.2.2.trans (S9.out.mono (Nat.le_trans (Nat.le_of_eq GW.out.symm) (Nat.le_of_lt (Nat.lt_trans HLT1.out HLT3.out))))⟩
    ·rw [if_neg c2] at h
     have hb0 : (t2 != 0) = true := bne_iff_ne.mpr c2
     have H := Aside0.mk (Option.some.inj h)
     clear h
     as_aux_lemma =>
      go_enter Try.func32, Try.ntmps32
      go_wp2_with (first | ((with_reducible refine gate_dst (N := 2) rfl ?_); refine box_event ?hg (N := 2) ?hd (cs := #[.slice A0 l0.length c0]) (t := 41) ?hr ?_; (case hd => rfl); (case hg => rfl); (case hr => first | (go_simp; done) | (go_simp; rfl)); intro gw hgw w1 hbx hbl; have GW := Aside0.mk hgw; have BW := Aside0.mk hbx; have LB := Aside0.mk hbl; clear hgw hbx hbl) | ((with_reducible refine gate_dst (N := 3) rfl ?_); refine box_event ?hg (N := 3) ?hd (cs := #[.int .i64 a1]) (t := 3) ?hr ?_; (case hd => rfl); (case hg => rfl); (case hr => first | (go_simp; done) | (go_simp; rfl)); intro gr hgr w2 hbx hbl; have GR := Aside0.mk hgr; have BR := Aside0.mk hbx; have HLT1 := Aside0.mk (show gw < gr from by rw [hgr]; exact blk_lt BW.out); replace BW := Aside0.mk ((hbl.block gw (blk_lt BW.out)).trans BW.out); replace LB := Aside0.mk (LB.out.trans (hbl.mono LB.out.size)); have hzr : w2.cell? ⟨gr, 0, none⟩ = some (.int .i64 a1) := (blk_cell BR.out 0).trans rfl; clear hgr hbx hbl) | ((with_reducible refine gate_callee (f := 71) rfl ?_); refine goesL_ (some 11) rfl rfl Try.func71 (by kernel_rfl) rfl #[.int .i64 a1] rfl (by (try simp only [List.map_toArray, List.map_cons, List.map_nil]); first | done | rfl) ?_; (with_reducible refine (reed_checks.calls a1 _ _ CK.out).mono ?_); rintro e w' ⟨rfl, ⟨nd, rfl⟩⟩; refine ⟨_, rfl, ?_⟩; clear hzr; obtain ⟨w3, hw3⟩ : ∃ w3, w3 = w2.drewN nd := ⟨_, rfl⟩; rw [← hw3]; replace BR := Aside0.mk (show w3.heap[gr]? = some (.cells #[.int .i64 a1] 3 (0, 0)) from by rw [hw3]; exact blk_drewN BR.out nd); replace BW := Aside0.mk (show w3.heap[gw]? = some (.cells #[.slice A0 l0.length c0] 41 (0, 0)) from by rw [hw3]; exact blk_drewN BW.out nd); replace LB := Aside0.mk (show Below w.heap.size w w3 from by rw [hw3]; exact pw_below_drewN LB.out nd); clear hw3) | ((with_reducible refine gate_dst (N := 7) rfl ?_); refine box_event ?hg (N := 7) ?hd (cs := #[.int .i64 0]) (t := 3) ?hr ?_; (case hd => rfl); (case hg => rfl); (case hr => first | (go_simp; done) | (go_simp; rfl)); intro gs hgs w4 hbx hbl; have BS := Aside0.mk hbx; have HLT2 := Aside0.mk (show gr < gs from by rw [hgs]; exact blk_lt BR.out); replace BW := Aside0.mk ((hbl.block gw (blk_lt BW.out)).trans BW.out); replace BR := Aside0.mk ((hbl.block gr (blk_lt BR.out)).trans BR.out); replace LB := Aside0.mk (LB.out.trans (hbl.mono LB.out.size)); have hzs : w4.cell? ⟨gs, 0, none⟩ = some (.int .i64 0) := (blk_cell BS.out 0).trans rfl; have hfs := blk_frozen BS.out 0; clear hgs hbx hbl) | ((with_reducible refine gate_store (t := 3) (p := 7) rfl ?_); refine store_event (t := 3) (p := 7) (v := ?vo) (w1 := (w4.setCell ⟨gs, 0, none⟩ (.int .i64 0))) ?hg ?ho ?hn ?hr ?_; (case ho => rfl); (case hg => rfl); (case hn => rfl); (case hr => first | (go_simp; done) | (go_simp; rfl)); intro w5 hw; have BS5 := Aside0.mk (show w5.heap[gs]? = some (.cells #[.int .i64 0] 3 (0, 0)) from by rw [hw]; exact blk_set BS.out 0 (.int .i64 0)); have BR5 := Aside0.mk (show w5.heap[gr]? = some (.cells #[.int .i64 a1] 3 (0, 0)) from by rw [hw]; exact blk_far BR.out (Nat.ne_of_lt HLT2.out) _); have BW5 := Aside0.mk (show w5.heap[gw]? = some (.cells #[.slice A0 l0.length c0] 41 (0, 0)) from by rw [hw]; exact blk_far BW.out (Nat.ne_of_lt (Nat.lt_trans HLT1.out HLT2.out)) _); have LB5 := Aside0.mk (show Below w.heap.size w w5 from by rw [hw]; exact LB.out.setCell (show w.heap.size ≤ gs from Nat.le_trans (Nat.le_of_eq GW.out.symm) (Nat.le_of_lt (Nat.lt_trans HLT1.out HLT2.out))) _); have HM5 := Aside0.mk (show MsgAt A0 c0 l0 a1 gw gr w w5 from ⟨BR5.out, BW5.out, LB5.out⟩); clear hw hzs hfs BS BR BW LB) | (go_at_call 72; (with_reducible refine (msgB_call1 HLT1.out HLT2.out (Nat.le_of_eq GW.out.symm) HLEN.out HC0.out _ BS5.out HM5.out sum _ M1.out).mono ?_); rintro e w6 ⟨rfl, hs6⟩; have S6 := Aside0.mk hs6; clear hs6) | ((with_reducible refine gate_dst (N := 9) rfl ?_); refine box_event ?hg (N := 9) ?hd (cs := #[.pointer none, .slice none 0 0]) (t := 97) ?hr ?_; (case hd => rfl); (case hg => rfl); (case hr => first | (go_simp; done) | (go_simp; rfl)); intro gb hgb w7 hbx hbl; have HLT3 := Aside0.mk (show gr < gb from by rw [hgb]; exact blk_lt S6.out.2.1); have HBD := Aside0.mk (msgB_bld_new hbx); have HLE := Aside0.mk (Nat.le_of_lt (blk_lt hbx)); have HM := Aside0.mk (show MsgAt A0 c0 l0 a1 gw gr w w7 from ⟨(hbl.block gr (blk_lt S6.out.2.1)).trans S6.out.2.1, (hbl.block gw (blk_lt S6.out.2.2.1)).trans S6.out.2.2.1, S6.out.2.2.2.trans (hbl.mono S6.out.2.2.2.size)⟩); clear hgb hbx hbl) | (go_at_call 72; (with_reducible refine (msgB_call2 (k := k) HLT1.out HLT3.out (Nat.le_of_eq GW.out.symm) HLEN.out HC0.out _ HBD.out HLE.out HM.out bs _ M2.out).mono ?_); rintro e w8 ⟨rfl, hs8⟩; have S8 := Aside0.mk hs8; clear hs8))
      go_ret2
      have hH := H.out
      simp only [Prod.mk.injEq] at hH
      obtain ⟨rfl, rfl⟩ := hH
      exact ⟨rfl, S8.out.2.2.2.2⟩
   ·rw [if_neg ct] at h
    have hb0 : (t1 != 0) = true := bne_iff_ne.mpr ct
    have H := Aside0.mk (Option.some.inj h)
    clear h
    as_aux_lemma =>
     go_enter Try.func32, Try.ntmps32
     go_wp2_with (first | ((with_reducible refine gate_dst (N := 2) rfl ?_); refine box_event ?hg (N := 2) ?hd (cs := #[.slice A0 l0.length c0]) (t := 41) ?hr ?_; (case hd => rfl); (case hg => rfl); (case hr => first | (go_simp; done) | (go_simp; rfl)); intro gw hgw w1 hbx hbl; have GW := Aside0.mk hgw; have BW := Aside0.mk hbx; have LB := Aside0.mk hbl; clear hgw hbx hbl) | ((with_reducible refine gate_dst (N := 3) rfl ?_); refine box_event ?hg (N := 3) ?hd (cs := #[.int .i64 a1]) (t := 3) ?hr ?_; (case hd => rfl); (case hg => rfl); (case hr => first | (go_simp; done) | (go_simp; rfl)); intro gr hgr w2 hbx hbl; have GR := Aside0.mk hgr; have BR := Aside0.mk hbx; have HLT1 := Aside0.mk (show gw < gr from by rw [hgr]; exact blk_lt BW.out); replace BW := Aside0.mk ((hbl.block gw (blk_lt BW.out)).trans BW.out); replace LB := Aside0.mk (LB.out.trans (hbl.mono LB.out.size)); have hzr : w2.cell? ⟨gr, 0, none⟩ = some (.int .i64 a1) := (blk_cell BR.out 0).trans rfl; clear hgr hbx hbl) | ((with_reducible refine gate_callee (f := 71) rfl ?_); refine goesL_ (some 11) rfl rfl Try.func71 (by kernel_rfl) rfl #[.int .i64 a1] rfl (by (try simp only [List.map_toArray, List.map_cons, List.map_nil]); first | done | rfl) ?_; (with_reducible refine (reed_checks.calls a1 _ _ CK.out).mono ?_); rintro e w' ⟨rfl, ⟨nd, rfl⟩⟩; refine ⟨_, rfl, ?_⟩; clear hzr; obtain ⟨w3, hw3⟩ : ∃ w3, w3 = w2.drewN nd := ⟨_, rfl⟩; rw [← hw3]; replace BR := Aside0.mk (show w3.heap[gr]? = some (.cells #[.int .i64 a1] 3 (0, 0)) from by rw [hw3]; exact blk_drewN BR.out nd); replace BW := Aside0.mk (show w3.heap[gw]? = some (.cells #[.slice A0 l0.length c0] 41 (0, 0)) from by rw [hw3]; exact blk_drewN BW.out nd); replace LB := Aside0.mk (show Below w.heap.size w w3 from by rw [hw3]; exact pw_below_drewN LB.out nd); clear hw3) | ((with_reducible refine gate_dst (N := 7) rfl ?_); refine box_event ?hg (N := 7) ?hd (cs := #[.int .i64 0]) (t := 3) ?hr ?_; (case hd => rfl); (case hg => rfl); (case hr => first | (go_simp; done) | (go_simp; rfl)); intro gs hgs w4 hbx hbl; have BS := Aside0.mk hbx; have HLT2 := Aside0.mk (show gr < gs from by rw [hgs]; exact blk_lt BR.out); replace BW := Aside0.mk ((hbl.block gw (blk_lt BW.out)).trans BW.out); replace BR := Aside0.mk ((hbl.block gr (blk_lt BR.out)).trans BR.out); replace LB := Aside0.mk (LB.out.trans (hbl.mono LB.out.size)); have hzs : w4.cell? ⟨gs, 0, none⟩ = some (.int .i64 0) := (blk_cell BS.out 0).trans rfl; have hfs := blk_frozen BS.out 0; clear hgs hbx hbl) | ((with_reducible refine gate_store (t := 3) (p := 7) rfl ?_); refine store_event (t := 3) (p := 7) (v := ?vo) (w1 := (w4.setCell ⟨gs, 0, none⟩ (.int .i64 0))) ?hg ?ho ?hn ?hr ?_; (case ho => rfl); (case hg => rfl); (case hn => rfl); (case hr => first | (go_simp; done) | (go_simp; rfl)); intro w5 hw; have BS5 := Aside0.mk (show w5.heap[gs]? = some (.cells #[.int .i64 0] 3 (0, 0)) from by rw [hw]; exact blk_set BS.out 0 (.int .i64 0)); have BR5 := Aside0.mk (show w5.heap[gr]? = some (.cells #[.int .i64 a1] 3 (0, 0)) from by rw [hw]; exact blk_far BR.out (Nat.ne_of_lt HLT2.out) _); have BW5 := Aside0.mk (show w5.heap[gw]? = some (.cells #[.slice A0 l0.length c0] 41 (0, 0)) from by rw [hw]; exact blk_far BW.out (Nat.ne_of_lt (Nat.lt_trans HLT1.out HLT2.out)) _); have LB5 := Aside0.mk (show Below w.heap.size w w5 from by rw [hw]; exact LB.out.setCell (show w.heap.size ≤ gs from Nat.le_trans (Nat.le_of_eq GW.out.symm) (Nat.le_of_lt (Nat.lt_trans HLT1.out HLT2.out))) _); have HM5 := Aside0.mk (show MsgAt A0 c0 l0 a1 gw gr w w5 from ⟨BR5.out, BW5.out, LB5.out⟩); clear hw hzs hfs BS BR BW LB) | (go_at_call 72; (with_reducible refine (msgB_call1 HLT1.out HLT2.out (Nat.le_of_eq GW.out.symm) HLEN.out HC0.out _ BS5.out HM5.out sum _ M1.out).mono ?_); rintro e w6 ⟨rfl, hs6⟩; have S6 := Aside0.mk hs6; clear hs6))
     go_ret2
     have hH := H.out
     simp only [Prod.mk.injEq] at hH
     obtain ⟨rfl, rfl⟩ := hH
     exact ⟨rfl, S6.out.2.2.2⟩
  ·rw [if_neg cb] at h
   have hbf : b = false := by simpa using cb
   subst hbf
   have H := Aside0.mk (Option.some.inj h)
   clear h
   as_aux_lemma =>
    go_enter Try.func32, Try.ntmps32
    go_wp2_with (first | ((with_reducible refine gate_dst (N := 2) rfl ?_); refine box_event ?hg (N := 2) ?hd (cs := #[.slice A0 l0.length c0]) (t := 41) ?hr ?_; (case hd => rfl); (case hg => rfl); (case hr => first | (go_simp; done) | (go_simp; rfl)); intro gw hgw w1 hbx hbl; have GW := Aside0.mk hgw; have BW := Aside0.mk hbx; have LB := Aside0.mk hbl; clear hgw hbx hbl) | ((with_reducible refine gate_dst (N := 3) rfl ?_); refine box_event ?hg (N := 3) ?hd (cs := #[.int .i64 a1]) (t := 3) ?hr ?_; (case hd => rfl); (case hg => rfl); (case hr => first | (go_simp; done) | (go_simp; rfl)); intro gr hgr w2 hbx hbl; have GR := Aside0.mk hgr; have BR := Aside0.mk hbx; have HLT1 := Aside0.mk (show gw < gr from by rw [hgr]; exact blk_lt BW.out); replace BW := Aside0.mk ((hbl.block gw (blk_lt BW.out)).trans BW.out); replace LB := Aside0.mk (LB.out.trans (hbl.mono LB.out.size)); have hzr : w2.cell? ⟨gr, 0, none⟩ = some (.int .i64 a1) := (blk_cell BR.out 0).trans rfl; clear hgr hbx hbl) | ((with_reducible refine gate_callee (f := 71) rfl ?_); refine goesL_ (some 11) rfl rfl Try.func71 (by kernel_rfl) rfl #[.int .i64 a1] rfl (by (try simp only [List.map_toArray, List.map_cons, List.map_nil]); first | done | rfl) ?_; (with_reducible refine (reed_checks.calls a1 _ _ CK.out).mono ?_); rintro e w' ⟨rfl, ⟨nd, rfl⟩⟩; refine ⟨_, rfl, ?_⟩; clear hzr; obtain ⟨w3, hw3⟩ : ∃ w3, w3 = w2.drewN nd := ⟨_, rfl⟩; rw [← hw3]; replace BR := Aside0.mk (show w3.heap[gr]? = some (.cells #[.int .i64 a1] 3 (0, 0)) from by rw [hw3]; exact blk_drewN BR.out nd); replace BW := Aside0.mk (show w3.heap[gw]? = some (.cells #[.slice A0 l0.length c0] 41 (0, 0)) from by rw [hw3]; exact blk_drewN BW.out nd); replace LB := Aside0.mk (show Below w.heap.size w w3 from by rw [hw3]; exact pw_below_drewN LB.out nd); clear hw3) | ((with_reducible refine gate_dst (N := 7) rfl ?_); refine box_event ?hg (N := 7) ?hd (cs := #[.int .i64 0]) (t := 3) ?hr ?_; (case hd => rfl); (case hg => rfl); (case hr => first | (go_simp; done) | (go_simp; rfl)); intro gs hgs w4 hbx hbl; have BS := Aside0.mk hbx; have HLT2 := Aside0.mk (show gr < gs from by rw [hgs]; exact blk_lt BR.out); replace BW := Aside0.mk ((hbl.block gw (blk_lt BW.out)).trans BW.out); replace BR := Aside0.mk ((hbl.block gr (blk_lt BR.out)).trans BR.out); replace LB := Aside0.mk (LB.out.trans (hbl.mono LB.out.size)); have hzs : w4.cell? ⟨gs, 0, none⟩ = some (.int .i64 0) := (blk_cell BS.out 0).trans rfl; have hfs := blk_frozen BS.out 0; clear hgs hbx hbl) | ((with_reducible refine gate_store (t := 3) (p := 7) rfl ?_); refine store_event (t := 3) (p := 7) (v := ?vo) (w1 := (w4.setCell ⟨gs, 0, none⟩ (.int .i64 0))) ?hg ?ho ?hn ?hr ?_; (case ho => rfl); (case hg => rfl); (case hn => rfl); (case hr => first | (go_simp; done) | (go_simp; rfl)); intro w5 hw; have BS5 := Aside0.mk (show w5.heap[gs]? = some (.cells #[.int .i64 0] 3 (0, 0)) from by rw [hw]; exact blk_set BS.out 0 (.int .i64 0)); have BR5 := Aside0.mk (show w5.heap[gr]? = some (.cells #[.int .i64 a1] 3 (0, 0)) from by rw [hw]; exact blk_far BR.out (Nat.ne_of_lt HLT2.out) _); have BW5 := Aside0.mk (show w5.heap[gw]? = some (.cells #[.slice A0 l0.length c0] 41 (0, 0)) from by rw [hw]; exact blk_far BW.out (Nat.ne_of_lt (Nat.lt_trans HLT1.out HLT2.out)) _); have LB5 := Aside0.mk (show Below w.heap.size w w5 from by rw [hw]; exact LB.out.setCell (show w.heap.size ≤ gs from Nat.le_trans (Nat.le_of_eq GW.out.symm) (Nat.le_of_lt (Nat.lt_trans HLT1.out HLT2.out))) _); have HM5 := Aside0.mk (show MsgAt A0 c0 l0 a1 gw gr w w5 from ⟨BR5.out, BW5.out, LB5.out⟩); clear hw hzs hfs BS BR BW LB))
    go_ret2
    have hH := H.out
    simp only [Prod.mk.injEq] at hH
    obtain ⟨rfl, rfl⟩ := hH
    exact ⟨rfl, LB.out⟩
 ·rw [if_neg hlen] at h
  cases h

end Go.Proofs.Ytncoakokdajibaa.Q
