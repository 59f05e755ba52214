-- Printed by myprint.py (ours) over the kit's printer, out of the translation.
import Derived.Test.YthfcafllcgjepaaMeterNoneK0
import Derived.Test.YthfcafllcgjepaaMeterNoneF0
import Derived.Test.YthfcafllcgjepaaMeterNoneQ1
namespace Go.Proofs.Ythfcafllcgjepaa.Q
open Go.RowKit Go.Proofs.YthfcafllcgjepaaW.PrintWords Go.Proofs.YthfcafllcgjepaaW.PrintLast Go.Proofs.YthfcafllcgjepaaW.PrintMore
attribute [local go_sem] ArrW.ptrOf_slice unary_neg_float unary_neg_complex run_store_float run_store_complex max2_int min2_int max_two min_two max_three min_three max_four min_four   -- for this text's walks alone
set_option linter.unusedVariables false
set_option linter.unusedSimpArgs false

/-! ### points_of: function 127 -/
--WALK
theorem pts_run_store_func {P : Program} (w : World) (a : Addr) (m : Mode) (fn : Fn) (x y : Array Value) : (store a (.func fn x y) m).run P w = stored P w a (.func fn x y) m := run_store P w a _ m rfl
theorem pts_run_store_nilFunc {P : Program} (w : World) (a : Addr) (m : Mode) : (store a .nilFunc m).run P w = stored P w a .nilFunc m := run_store P w a _ m rfl
attribute [local go_sem] pts_run_store_func pts_run_store_nilFunc
theorem pts_axis_calls (be : Nat) (edge word : Int) (r : Nat) (w : World) (hc : w.cell? ⟨be, 0, none⟩ = some (.int .i64 edge)) (h : pts_axis edge word = some r) :
    Calls Try.prog 168 #[.int .i64 word, .pointer (some ⟨be, 0, none⟩)] w fun e w' => e = .returned (.float .f64 r) ∧ Drawn0 w w' := by
  obtain ⟨⟨u, v⟩, h5, h2⟩ := Option.bind_eq_some_iff.1 h
  clear h
  obtain rfl := Option.some.inj h2
  have H := Aside0.mk h5
  clear h5 h2
  go_enter Try.func168, Try.ntmps168
  go_wp2_with (first | (go_at_call 169; go_loud ((with_reducible refine (bits_Ungray.calls 9 _ _ _ _ H.out).mono ?_); rintro e w1 ⟨rfl, ⟨m, rfl⟩⟩)))
  go_ret
  exact ⟨by first | rfl | (simp; done) | (simp [*]; done), by repeat (first | exact Drawn0.refl _ | apply Drawn0.step)⟩
theorem pts_axis_quiet (be : Nat) (edge word : Int) (r : Nat) (w : World) (n : Nat) (hc : w.cell? ⟨be, 0, none⟩ = some (.int .i64 edge)) (h : pts_axis edge word = some r) :
    Calls Try.prog 168 #[.int .i64 word, .pointer (some ⟨be, 0, none⟩)] (w.drewN n) fun e w' => e = .returned (.float .f64 r) ∧ ∃ m, w' = w.drewN m :=
  Calls.quiet_of ((pts_axis_calls be edge word r (w.drewN n) (by simpa using hc) h).mono fun e w' ⟨he, m⟩ => ⟨he, m.out⟩)
def pts_Sq (B : Nat) (n edge : Int) (w : World) (v : Value) : Prop := ∃ bn bx be, B ≤ bn ∧ B ≤ bx ∧ B ≤ be ∧ v = .func (.func 170) #[] #[.pointer (some ⟨bn, 0, none⟩), .pointer (some ⟨bx, 0, none⟩)] ∧ w.cell? ⟨bn, 0, none⟩ = some (.int .i64 n) ∧ w.cell? ⟨bx, 0, none⟩ = some (.func (.func 168) #[] #[.pointer (some ⟨be, 0, none⟩)]) ∧ w.cell? ⟨be, 0, none⟩ = some (.int .i64 edge)
def pts_Cr (B : Nat) (edge most : Int) (w : World) (v : Value) : Prop := ∃ be bm, B ≤ be ∧ B ≤ bm ∧ v = .func (.func 171) #[] #[.pointer (some ⟨be, 0, none⟩), .pointer (some ⟨bm, 0, none⟩)] ∧ w.cell? ⟨be, 0, none⟩ = some (.int .i64 edge) ∧ w.cell? ⟨bm, 0, none⟩ = some (.int .i64 most)
theorem pts_square_calls (n edge : Int) (w : World) :
    Calls Try.prog 155 #[.int .i64 n, .int .i64 edge] w fun e w' => ∃ v, e = .returned (.agg #[.int .i64 n, .int .i64 edge, v]) ∧ pts_Sq w.heap.size n edge w' v ∧ Below w.heap.size w w' := by
  have HB := Aside0.mk (Below.refl w.heap.size w)
  go_enter Try.func155, Try.ntmps155
  go_wp2
  refine bodyPost_ret (v := .agg #[.int .i64 n, .int .i64 edge, .func (.func 170) #[] #[.pointer (some ⟨w.heap.size, 0, none⟩), .pointer (some ⟨w.heap.size + 1 + 1 + 1, 0, none⟩)]]) (by simp [results, Try.results155, go_sem]) rfl ?_
  refine ⟨_, rfl, ⟨_, _, w.heap.size + 1, Nat.le_refl _, by omega, by omega, rfl, ?_, ?_, ?_⟩, ?_⟩
  · simp [go_sem]
  · simp [go_sem]
  · simp [go_sem]
  · repeat (first | exact HB.out | apply below_alloc | apply pw_below_drewN)
theorem pts_cross_calls (n edge most : Int) (w : World) :
    Calls Try.prog 156 #[.int .i64 n, .int .i64 edge, .int .i64 most] w fun e w' => ∃ v, e = .returned (.agg #[.int .i64 n, .int .i64 edge, v]) ∧ pts_Cr w.heap.size edge most w' v ∧ Below w.heap.size w w' := by
  have HB := Aside0.mk (Below.refl w.heap.size w)
  go_enter Try.func156, Try.ntmps156
  go_wp2
  refine bodyPost_ret (v := .agg #[.int .i64 n, .int .i64 edge, .func (.func 171) #[] #[.pointer (some ⟨w.heap.size, 0, none⟩), .pointer (some ⟨w.heap.size + 1, 0, none⟩)]]) (by simp [results, Try.results156, go_sem]) rfl ?_
  refine ⟨_, rfl, ⟨_, _, Nat.le_refl _, by omega, rfl, ?_, ?_⟩, ?_⟩
  · simp [go_sem]
  · simp [go_sem]
  · repeat (first | exact HB.out | apply below_alloc | apply pw_below_drewN)
theorem pts_sq_at2 (bn bx be : Nat) (edge label : Int) (p q : Nat) (w : World) (h1 : w.cell? ⟨bn, 0, none⟩ = some (.int .i64 2)) (h2 : w.cell? ⟨bx, 0, none⟩ = some (.func (.func 168) #[] #[.pointer (some ⟨be, 0, none⟩)])) (h3 : w.cell? ⟨be, 0, none⟩ = some (.int .i64 edge)) (hp : pts_axis edge (label / 2) = some p) (hq : pts_axis edge (Go.bits .and .i64 label 1) = some q) :
    Calls Try.prog 170 #[.int .i64 label, .pointer (some ⟨bn, 0, none⟩), .pointer (some ⟨bx, 0, none⟩)] w fun e w' => e = .returned (.complex .f64 p q) ∧ Below w.heap.size w w' := by
  have HB := Aside0.mk (Below.refl w.heap.size w)
  have HP := Aside0.mk hp
  have HQ := Aside0.mk hq
  clear hp hq
  go_enter Try.func170, Try.ntmps170
  go_wp2_with fail
  refine wp_region_quiet_lit (by kernel_rfl) (by kernel_rfl) ?_
  repeat (quiet_step (first | (go_at_call 168; exact pts_axis_quiet _ _ _ _ _ _ h3 HP.out) | (go_at_call 168; exact pts_axis_quiet _ _ _ _ _ _ h3 HQ.out)))
  refine wpQuiet_nil ?_
  intro _ hw'
  obtain ⟨nq, hw''⟩ := hw'
  subst hw''
  go_wp2
  go_ret
  exact ⟨rfl, by repeat (first | exact HB.out | apply below_alloc | apply pw_below_drewN)⟩
theorem pts_sq_at4 (bn bx be : Nat) (edge label : Int) (p q : Nat) (w : World) (h1 : w.cell? ⟨bn, 0, none⟩ = some (.int .i64 4)) (h2 : w.cell? ⟨bx, 0, none⟩ = some (.func (.func 168) #[] #[.pointer (some ⟨be, 0, none⟩)])) (h3 : w.cell? ⟨be, 0, none⟩ = some (.int .i64 edge)) (hp : pts_axis edge (label / 4) = some p) (hq : pts_axis edge (Go.bits .and .i64 label 3) = some q) :
    Calls Try.prog 170 #[.int .i64 label, .pointer (some ⟨bn, 0, none⟩), .pointer (some ⟨bx, 0, none⟩)] w fun e w' => e = .returned (.complex .f64 p q) ∧ Below w.heap.size w w' := by
  have HB := Aside0.mk (Below.refl w.heap.size w)
  have HP := Aside0.mk hp
  have HQ := Aside0.mk hq
  clear hp hq
  go_enter Try.func170, Try.ntmps170
  go_wp2_with fail
  refine wp_region_quiet_lit (by kernel_rfl) (by kernel_rfl) ?_
  repeat (quiet_step (first | (go_at_call 168; exact pts_axis_quiet _ _ _ _ _ _ h3 HP.out) | (go_at_call 168; exact pts_axis_quiet _ _ _ _ _ _ h3 HQ.out)))
  refine wpQuiet_nil ?_
  intro _ hw'
  obtain ⟨nq, hw''⟩ := hw'
  subst hw''
  go_wp2
  go_ret
  exact ⟨rfl, by repeat (first | exact HB.out | apply below_alloc | apply pw_below_drewN)⟩
theorem pts_sq_at6 (bn bx be : Nat) (edge label : Int) (p q : Nat) (w : World) (h1 : w.cell? ⟨bn, 0, none⟩ = some (.int .i64 6)) (h2 : w.cell? ⟨bx, 0, none⟩ = some (.func (.func 168) #[] #[.pointer (some ⟨be, 0, none⟩)])) (h3 : w.cell? ⟨be, 0, none⟩ = some (.int .i64 edge)) (hp : pts_axis edge (label / 8) = some p) (hq : pts_axis edge (Go.bits .and .i64 label 7) = some q) :
    Calls Try.prog 170 #[.int .i64 label, .pointer (some ⟨bn, 0, none⟩), .pointer (some ⟨bx, 0, none⟩)] w fun e w' => e = .returned (.complex .f64 p q) ∧ Below w.heap.size w w' := by
  have HB := Aside0.mk (Below.refl w.heap.size w)
  have HP := Aside0.mk hp
  have HQ := Aside0.mk hq
  clear hp hq
  go_enter Try.func170, Try.ntmps170
  go_wp2_with fail
  refine wp_region_quiet_lit (by kernel_rfl) (by kernel_rfl) ?_
  repeat (quiet_step (first | (go_at_call 168; exact pts_axis_quiet _ _ _ _ _ _ h3 HP.out) | (go_at_call 168; exact pts_axis_quiet _ _ _ _ _ _ h3 HQ.out)))
  refine wpQuiet_nil ?_
  intro _ hw'
  obtain ⟨nq, hw''⟩ := hw'
  subst hw''
  go_wp2
  go_ret
  exact ⟨rfl, by repeat (first | exact HB.out | apply below_alloc | apply pw_below_drewN)⟩
theorem pts_sq_at8 (bn bx be : Nat) (edge label : Int) (p q : Nat) (w : World) (h1 : w.cell? ⟨bn, 0, none⟩ = some (.int .i64 8)) (h2 : w.cell? ⟨bx, 0, none⟩ = some (.func (.func 168) #[] #[.pointer (some ⟨be, 0, none⟩)])) (h3 : w.cell? ⟨be, 0, none⟩ = some (.int .i64 edge)) (hp : pts_axis edge (label / 16) = some p) (hq : pts_axis edge (Go.bits .and .i64 label 15) = some q) :
    Calls Try.prog 170 #[.int .i64 label, .pointer (some ⟨bn, 0, none⟩), .pointer (some ⟨bx, 0, none⟩)] w fun e w' => e = .returned (.complex .f64 p q) ∧ Below w.heap.size w w' := by
  have HB := Aside0.mk (Below.refl w.heap.size w)
  have HP := Aside0.mk hp
  have HQ := Aside0.mk hq
  clear hp hq
  go_enter Try.func170, Try.ntmps170
  go_wp2_with fail
  refine wp_region_quiet_lit (by kernel_rfl) (by kernel_rfl) ?_
  repeat (quiet_step (first | (go_at_call 168; exact pts_axis_quiet _ _ _ _ _ _ h3 HP.out) | (go_at_call 168; exact pts_axis_quiet _ _ _ _ _ _ h3 HQ.out)))
  refine wpQuiet_nil ?_
  intro _ hw'
  obtain ⟨nq, hw''⟩ := hw'
  subst hw''
  go_wp2
  go_ret
  exact ⟨rfl, by repeat (first | exact HB.out | apply below_alloc | apply pw_below_drewN)⟩
theorem pts_crf_hi {edge most : Int} {k : Nat} {a l : Int} {r : Nat × Nat} (h : pts_crf edge most (k + 1) a l = some r) (c : most < (if a < wrap64 (-a) then wrap64 (-a) else a)) :
    (l ≤ most → r = (floatOfInt .f64 a, floatOfInt .f64 (wrap64 (wrap64 (2 * l) - most)))) ∧ (most < l → pts_crf edge most k (wrap64 (a + 2)) (wrap64 (l - wrap64 (most + 1))) = some r) := by
  have e : pts_high edge most a = most := by unfold pts_high; rw [if_pos c]
  rw [pts_crf, e] at h
  refine ⟨fun h1 => ?_, fun h1 => ?_⟩
  · rw [if_pos h1] at h; exact (Option.some.inj h).symm
  · rw [if_neg (by omega)] at h; exact h
theorem pts_crf_lo {edge most : Int} {k : Nat} {a l : Int} {r : Nat × Nat} (h : pts_crf edge most (k + 1) a l = some r) (c : (if a < wrap64 (-a) then wrap64 (-a) else a) ≤ most) :
    (l ≤ edge → r = (floatOfInt .f64 a, floatOfInt .f64 (wrap64 (wrap64 (2 * l) - edge)))) ∧ (edge < l → pts_crf edge most k (wrap64 (a + 2)) (wrap64 (l - wrap64 (edge + 1))) = some r) := by
  have e : pts_high edge most a = edge := by unfold pts_high; rw [if_neg (by omega)]
  rw [pts_crf, e] at h
  refine ⟨fun h1 => ?_, fun h1 => ?_⟩
  · rw [if_pos h1] at h; exact (Option.some.inj h).symm
  · rw [if_neg (by omega)] at h; exact h
theorem pts_cr_at (be bm : Nat) (edge most label : Int) (k : Nat) (p q : Nat) (w : World) (h1 : w.cell? ⟨be, 0, none⟩ = some (.int .i64 edge)) (h2 : w.cell? ⟨bm, 0, none⟩ = some (.int .i64 most)) (h : pts_crf edge most k (wrap64 (-edge)) label = some (p, q)) :
    Calls Try.prog 171 #[.int .i64 label, .pointer (some ⟨be, 0, none⟩), .pointer (some ⟨bm, 0, none⟩)] w fun e w' => e = .returned (.complex .f64 p q) ∧ Drawn0 w w' := by
  have H := Aside0.mk h
  clear h
  go_enter Try.func171, Try.ntmps171
  go_wp2
  go_loopg [0, 5, 6] k (fun kq v0 v5 v6 w' => ∃ (a l : Int), v5 = .int .i64 a ∧ v0 = .int .i64 l ∧ Aside0 (pts_crf edge most kq a l = some (p, q)) ∧ Drawn0 w w')
  case atStart => exact ⟨_, _, rfl, rfl, ⟨H.out⟩, Drawn0.refl _⟩
  case round =>
    obtain ⟨a, l, rfl, rfl, HX, ⟨m1, rfl⟩⟩ := hrel
    cases gk with
    | zero => have := HX.out; simp [pts_crf] at this
    | succ k1 =>
    go_wp2
    all_goals first
      | (have e := (pts_crf_hi HX.out (by assumption)).1 (by assumption)
         obtain ⟨rfl, rfl⟩ := Prod.mk.inj e
         go_ret
         exact ⟨rfl, Drawn0.step (Drawn0.refl _) _⟩)
      | (have e := (pts_crf_lo HX.out (by assumption)).1 (by assumption)
         obtain ⟨rfl, rfl⟩ := Prod.mk.inj e
         go_ret
         exact ⟨rfl, Drawn0.step (Drawn0.refl _) _⟩)
      | (have e := (pts_crf_hi HX.out (by assumption)).2 (by assumption)
         have e2 := Aside0.mk e
         clear e
         go_roundg k1
         case measure => omega
         case rel => exact ⟨_, _, rfl, rfl, e2, Drawn0.step (Drawn0.refl _) _⟩)
      | (have e := (pts_crf_lo HX.out (by assumption)).2 (by assumption)
         have e2 := Aside0.mk e
         clear e
         go_roundg k1
         case measure => omega
         case rel => exact ⟨_, _, rfl, rfl, e2, Drawn0.step (Drawn0.refl _) _⟩)

/-- A function value of points: whatever comes pts_later (new blocks alone), called with a label it answers as F says. -/
def pts_FnAt (w : World) (F : Int → Option (Nat × Nat)) (fn : Nat) (cap : Array Value) : Prop :=
  ∀ w', Below w.heap.size w w' → ∀ label r, F label = some r → Calls Try.prog fn (#[.int .i64 label] ++ cap) w' fun e w'' => e = .returned (.complex .f64 r.1 r.2) ∧ Below w'.heap.size w' w''
theorem pts_later {w w' : World} (hb : Below w.heap.size w w') {p : Addr} {v : Value} (h : w.cell? p = some v) : w'.cell? p = some v := (hb.cell (World.block_lt_of_cell? w p h)).trans h
theorem pts_sq_fn2 {B : Nat} {edge : Int} {w : World} {v : Value} (h : pts_Sq B 2 edge w v) : ∃ cap, v = .func (.func 170) #[] cap ∧ pts_FnAt w (pts_sqf 2 1 edge) 170 cap := by
  obtain ⟨bn, bx, be, _, _, _, rfl, h1, h2, h3⟩ := h
  refine ⟨_, rfl, fun w' hb label r hr => ?_⟩
  obtain ⟨p, hp, hr⟩ := Option.bind_eq_some_iff.1 hr
  obtain ⟨q, hq, hr⟩ := Option.bind_eq_some_iff.1 hr
  obtain rfl := Option.some.inj hr
  exact pts_sq_at2 bn bx be edge label p q w' (pts_later hb h1) (pts_later hb h2) (pts_later hb h3) hp hq
theorem pts_sq_fn4 {B : Nat} {edge : Int} {w : World} {v : Value} (h : pts_Sq B 4 edge w v) : ∃ cap, v = .func (.func 170) #[] cap ∧ pts_FnAt w (pts_sqf 4 3 edge) 170 cap := by
  obtain ⟨bn, bx, be, _, _, _, rfl, h1, h2, h3⟩ := h
  refine ⟨_, rfl, fun w' hb label r hr => ?_⟩
  obtain ⟨p, hp, hr⟩ := Option.bind_eq_some_iff.1 hr
  obtain ⟨q, hq, hr⟩ := Option.bind_eq_some_iff.1 hr
  obtain rfl := Option.some.inj hr
  exact pts_sq_at4 bn bx be edge label p q w' (pts_later hb h1) (pts_later hb h2) (pts_later hb h3) hp hq
theorem pts_sq_fn6 {B : Nat} {edge : Int} {w : World} {v : Value} (h : pts_Sq B 6 edge w v) : ∃ cap, v = .func (.func 170) #[] cap ∧ pts_FnAt w (pts_sqf 8 7 edge) 170 cap := by
  obtain ⟨bn, bx, be, _, _, _, rfl, h1, h2, h3⟩ := h
  refine ⟨_, rfl, fun w' hb label r hr => ?_⟩
  obtain ⟨p, hp, hr⟩ := Option.bind_eq_some_iff.1 hr
  obtain ⟨q, hq, hr⟩ := Option.bind_eq_some_iff.1 hr
  obtain rfl := Option.some.inj hr
  exact pts_sq_at6 bn bx be edge label p q w' (pts_later hb h1) (pts_later hb h2) (pts_later hb h3) hp hq
theorem pts_sq_fn8 {B : Nat} {edge : Int} {w : World} {v : Value} (h : pts_Sq B 8 edge w v) : ∃ cap, v = .func (.func 170) #[] cap ∧ pts_FnAt w (pts_sqf 16 15 edge) 170 cap := by
  obtain ⟨bn, bx, be, _, _, _, rfl, h1, h2, h3⟩ := h
  refine ⟨_, rfl, fun w' hb label r hr => ?_⟩
  obtain ⟨p, hp, hr⟩ := Option.bind_eq_some_iff.1 hr
  obtain ⟨q, hq, hr⟩ := Option.bind_eq_some_iff.1 hr
  obtain rfl := Option.some.inj hr
  exact pts_sq_at8 bn bx be edge label p q w' (pts_later hb h1) (pts_later hb h2) (pts_later hb h3) hp hq
theorem pts_cr_fn {B : Nat} {edge most : Int} {w : World} {v : Value} (h : pts_Cr B edge most w v) : ∃ cap, v = .func (.func 171) #[] cap ∧ pts_FnAt w (pts_crF edge most) 171 cap := by
  obtain ⟨be, bm, _, _, rfl, h1, h2⟩ := h
  refine ⟨_, rfl, fun w' hb label r hr => ?_⟩
  exact (pts_cr_at be bm edge most label 40 r.1 r.2 w' (pts_later hb h1) (pts_later hb h2) hr).mono fun e w'' ⟨he, hd⟩ => ⟨he, hd.below⟩
/-- The variable of the result, behind a call that lays only new blocks. -/
theorem pts_var_kept {w w1 : World} (hb : Below (w.alloc (.cells #[.int .i64 0, .int .i64 0, .nilFunc] 199)).heap.size (w.alloc (.cells #[.int .i64 0, .int .i64 0, .nilFunc] 199)) w1) :
    w1.cell? ⟨w.heap.size, 0, none⟩ = some (.int .i64 0) ∧ w1.cell? ⟨w.heap.size, 1, none⟩ = some (.int .i64 0) ∧ w1.cell? ⟨w.heap.size, 2, none⟩ = some .nilFunc ∧ w1.frozen? ⟨w.heap.size, 0, none⟩ = false ∧ w1.frozen? ⟨w.heap.size, 1, none⟩ = false ∧ w1.frozen? ⟨w.heap.size, 2, none⟩ = false :=
  ⟨(hb.cell (p := ⟨w.heap.size, 0, none⟩) (by simp)).trans (by simp [go_sem]), (hb.cell (p := ⟨w.heap.size, 1, none⟩) (by simp)).trans (by simp [go_sem]), (hb.cell (p := ⟨w.heap.size, 2, none⟩) (by simp)).trans (by simp [go_sem]),
   (hb.frozen (p := ⟨w.heap.size, 0, none⟩) (by simp)).trans (by simp [go_sem]), (hb.frozen (p := ⟨w.heap.size, 1, none⟩) (by simp)).trans (by simp [go_sem]), (hb.frozen (p := ⟨w.heap.size, 2, none⟩) (by simp)).trans (by simp [go_sem])⟩
theorem pts_set3_cell {w : World} {b : Nat} {x y z : Value} {q : Addr} (h : q.block ≠ b) : (((w.setCell ⟨b, 0, none⟩ x).setCell ⟨b, 1, none⟩ y).setCell ⟨b, 2, none⟩ z).cell? q = w.cell? q := by
  have ne : ∀ j, (⟨b, j, none⟩ : Addr) ≠ q := fun j e => h (by rw [← e])
  rw [World.cell?_setCell_other _ _ _ _ (ne 2), World.cell?_setCell_other _ _ _ _ (ne 1), World.cell?_setCell_other _ _ _ _ (ne 0)]
theorem pts_of4 (w : World) : Calls Try.prog 127 #[.int .i64 4] w fun e w' => ∃ v, e = .returned (.tuple #[.agg #[.int .i64 2, .int .i64 1, v], .bool true]) ∧ pts_Sq (w.heap.size + 1) 2 1 w' v ∧ Below w.heap.size w w' := by
  have HB := Aside0.mk (Below.refl w.heap.size w)
  go_enter Try.func127, Try.ntmps127
  go_wp2_with (first | (go_at_call 155; refine (pts_square_calls 2 1 _).mono ?_; rintro e w1 ⟨v, rfl, ⟨bn, bx, be, k1, k2, k3, rfl, k4, k5, k6⟩, hb⟩; obtain ⟨c0, c1, c2, z0, z1, z2⟩ := pts_var_kept hb; have K1 := Aside0.mk k1; have K2 := Aside0.mk k2; have K3 := Aside0.mk k3; have HB1 := Aside0.mk hb; clear k1 k2 k3 hb))
  refine bodyPost_ret (v := .tuple #[.agg #[.int .i64 2, .int .i64 1, .func (.func 170) #[] #[.pointer (some ⟨bn, 0, none⟩), .pointer (some ⟨bx, 0, none⟩)]], .bool true]) (by simp [results, Try.results127, go_sem, c0, c1, c2]) rfl ?_
  have h1 := K1.out
  have h2 := K2.out
  have h3 := K3.out
  have he : (w.alloc (.cells #[.int .i64 0, .int .i64 0, .nilFunc] 199)).heap.size = w.heap.size + 1 := by simp
  rw [he] at h1 h2 h3
  refine ⟨_, rfl, ⟨bn, bx, be, h1, h2, h3, rfl, ?_, ?_, ?_⟩, ?_⟩
  · rw [pts_set3_cell (by show bn ≠ w.heap.size; omega)]; exact k4
  · rw [pts_set3_cell (by show bx ≠ w.heap.size; omega)]; exact k5
  · rw [pts_set3_cell (by show be ≠ w.heap.size; omega)]; exact k6
  · exact below_set (below_set (below_set ((below_alloc (Below.refl w.heap.size w) _).trans (HB1.out.mono (by rw [he]; omega))) (Nat.le_refl _)) (Nat.le_refl _)) (Nat.le_refl _)
theorem pts_of16 (w : World) : Calls Try.prog 127 #[.int .i64 16] w fun e w' => ∃ v, e = .returned (.tuple #[.agg #[.int .i64 4, .int .i64 3, v], .bool true]) ∧ pts_Sq (w.heap.size + 1) 4 3 w' v ∧ Below w.heap.size w w' := by
  have HB := Aside0.mk (Below.refl w.heap.size w)
  go_enter Try.func127, Try.ntmps127
  go_wp2_with (first | (go_at_call 155; refine (pts_square_calls 4 3 _).mono ?_; rintro e w1 ⟨v, rfl, ⟨bn, bx, be, k1, k2, k3, rfl, k4, k5, k6⟩, hb⟩; obtain ⟨c0, c1, c2, z0, z1, z2⟩ := pts_var_kept hb; have K1 := Aside0.mk k1; have K2 := Aside0.mk k2; have K3 := Aside0.mk k3; have HB1 := Aside0.mk hb; clear k1 k2 k3 hb))
  refine bodyPost_ret (v := .tuple #[.agg #[.int .i64 4, .int .i64 3, .func (.func 170) #[] #[.pointer (some ⟨bn, 0, none⟩), .pointer (some ⟨bx, 0, none⟩)]], .bool true]) (by simp [results, Try.results127, go_sem, c0, c1, c2]) rfl ?_
  have h1 := K1.out
  have h2 := K2.out
  have h3 := K3.out
  have he : (w.alloc (.cells #[.int .i64 0, .int .i64 0, .nilFunc] 199)).heap.size = w.heap.size + 1 := by simp
  rw [he] at h1 h2 h3
  refine ⟨_, rfl, ⟨bn, bx, be, h1, h2, h3, rfl, ?_, ?_, ?_⟩, ?_⟩
  · rw [pts_set3_cell (by show bn ≠ w.heap.size; omega)]; exact k4
  · rw [pts_set3_cell (by show bx ≠ w.heap.size; omega)]; exact k5
  · rw [pts_set3_cell (by show be ≠ w.heap.size; omega)]; exact k6
  · exact below_set (below_set (below_set ((below_alloc (Below.refl w.heap.size w) _).trans (HB1.out.mono (by rw [he]; omega))) (Nat.le_refl _)) (Nat.le_refl _)) (Nat.le_refl _)
theorem pts_of32 (w : World) : Calls Try.prog 127 #[.int .i64 32] w fun e w' => ∃ v, e = .returned (.tuple #[.agg #[.int .i64 5, .int .i64 5, v], .bool true]) ∧ pts_Cr (w.heap.size + 1) 5 3 w' v ∧ Below w.heap.size w w' := by
  have HB := Aside0.mk (Below.refl w.heap.size w)
  go_enter Try.func127, Try.ntmps127
  go_wp2_with (first | (go_at_call 156; refine (pts_cross_calls 5 5 3 _).mono ?_; rintro e w1 ⟨v, rfl, ⟨bn, bx, k1, k2, rfl, k4, k5⟩, hb⟩; obtain ⟨c0, c1, c2, z0, z1, z2⟩ := pts_var_kept hb; have K1 := Aside0.mk k1; have K2 := Aside0.mk k2; have HB1 := Aside0.mk hb; clear k1 k2 hb))
  refine bodyPost_ret (v := .tuple #[.agg #[.int .i64 5, .int .i64 5, .func (.func 171) #[] #[.pointer (some ⟨bn, 0, none⟩), .pointer (some ⟨bx, 0, none⟩)]], .bool true]) (by simp [results, Try.results127, go_sem, c0, c1, c2]) rfl ?_
  have h1 := K1.out
  have h2 := K2.out
  have he : (w.alloc (.cells #[.int .i64 0, .int .i64 0, .nilFunc] 199)).heap.size = w.heap.size + 1 := by simp
  rw [he] at h1 h2
  refine ⟨_, rfl, ⟨bn, bx, h1, h2, rfl, ?_, ?_⟩, ?_⟩
  · rw [pts_set3_cell (by show bn ≠ w.heap.size; omega)]; exact k4
  · rw [pts_set3_cell (by show bx ≠ w.heap.size; omega)]; exact k5
  · exact below_set (below_set (below_set ((below_alloc (Below.refl w.heap.size w) _).trans (HB1.out.mono (by rw [he]; omega))) (Nat.le_refl _)) (Nat.le_refl _)) (Nat.le_refl _)
theorem pts_of64 (w : World) : Calls Try.prog 127 #[.int .i64 64] w fun e w' => ∃ v, e = .returned (.tuple #[.agg #[.int .i64 6, .int .i64 7, v], .bool true]) ∧ pts_Sq (w.heap.size + 1) 6 7 w' v ∧ Below w.heap.size w w' := by
  have HB := Aside0.mk (Below.refl w.heap.size w)
  go_enter Try.func127, Try.ntmps127
  go_wp2_with (first | (go_at_call 155; refine (pts_square_calls 6 7 _).mono ?_; rintro e w1 ⟨v, rfl, ⟨bn, bx, be, k1, k2, k3, rfl, k4, k5, k6⟩, hb⟩; obtain ⟨c0, c1, c2, z0, z1, z2⟩ := pts_var_kept hb; have K1 := Aside0.mk k1; have K2 := Aside0.mk k2; have K3 := Aside0.mk k3; have HB1 := Aside0.mk hb; clear k1 k2 k3 hb))
  refine bodyPost_ret (v := .tuple #[.agg #[.int .i64 6, .int .i64 7, .func (.func 170) #[] #[.pointer (some ⟨bn, 0, none⟩), .pointer (some ⟨bx, 0, none⟩)]], .bool true]) (by simp [results, Try.results127, go_sem, c0, c1, c2]) rfl ?_
  have h1 := K1.out
  have h2 := K2.out
  have h3 := K3.out
  have he : (w.alloc (.cells #[.int .i64 0, .int .i64 0, .nilFunc] 199)).heap.size = w.heap.size + 1 := by simp
  rw [he] at h1 h2 h3
  refine ⟨_, rfl, ⟨bn, bx, be, h1, h2, h3, rfl, ?_, ?_, ?_⟩, ?_⟩
  · rw [pts_set3_cell (by show bn ≠ w.heap.size; omega)]; exact k4
  · rw [pts_set3_cell (by show bx ≠ w.heap.size; omega)]; exact k5
  · rw [pts_set3_cell (by show be ≠ w.heap.size; omega)]; exact k6
  · exact below_set (below_set (below_set ((below_alloc (Below.refl w.heap.size w) _).trans (HB1.out.mono (by rw [he]; omega))) (Nat.le_refl _)) (Nat.le_refl _)) (Nat.le_refl _)
theorem pts_of128 (w : World) : Calls Try.prog 127 #[.int .i64 128] w fun e w' => ∃ v, e = .returned (.tuple #[.agg #[.int .i64 7, .int .i64 11, v], .bool true]) ∧ pts_Cr (w.heap.size + 1) 11 7 w' v ∧ Below w.heap.size w w' := by
  have HB := Aside0.mk (Below.refl w.heap.size w)
  go_enter Try.func127, Try.ntmps127
  go_wp2_with (first | (go_at_call 156; refine (pts_cross_calls 7 11 7 _).mono ?_; rintro e w1 ⟨v, rfl, ⟨bn, bx, k1, k2, rfl, k4, k5⟩, hb⟩; obtain ⟨c0, c1, c2, z0, z1, z2⟩ := pts_var_kept hb; have K1 := Aside0.mk k1; have K2 := Aside0.mk k2; have HB1 := Aside0.mk hb; clear k1 k2 hb))
  refine bodyPost_ret (v := .tuple #[.agg #[.int .i64 7, .int .i64 11, .func (.func 171) #[] #[.pointer (some ⟨bn, 0, none⟩), .pointer (some ⟨bx, 0, none⟩)]], .bool true]) (by simp [results, Try.results127, go_sem, c0, c1, c2]) rfl ?_
  have h1 := K1.out
  have h2 := K2.out
  have he : (w.alloc (.cells #[.int .i64 0, .int .i64 0, .nilFunc] 199)).heap.size = w.heap.size + 1 := by simp
  rw [he] at h1 h2
  refine ⟨_, rfl, ⟨bn, bx, h1, h2, rfl, ?_, ?_⟩, ?_⟩
  · rw [pts_set3_cell (by show bn ≠ w.heap.size; omega)]; exact k4
  · rw [pts_set3_cell (by show bx ≠ w.heap.size; omega)]; exact k5
  · exact below_set (below_set (below_set ((below_alloc (Below.refl w.heap.size w) _).trans (HB1.out.mono (by rw [he]; omega))) (Nat.le_refl _)) (Nat.le_refl _)) (Nat.le_refl _)
theorem pts_of256 (w : World) : Calls Try.prog 127 #[.int .i64 256] w fun e w' => ∃ v, e = .returned (.tuple #[.agg #[.int .i64 8, .int .i64 15, v], .bool true]) ∧ pts_Sq (w.heap.size + 1) 8 15 w' v ∧ Below w.heap.size w w' := by
  have HB := Aside0.mk (Below.refl w.heap.size w)
  go_enter Try.func127, Try.ntmps127
  go_wp2_with (first | (go_at_call 155; refine (pts_square_calls 8 15 _).mono ?_; rintro e w1 ⟨v, rfl, ⟨bn, bx, be, k1, k2, k3, rfl, k4, k5, k6⟩, hb⟩; obtain ⟨c0, c1, c2, z0, z1, z2⟩ := pts_var_kept hb; have K1 := Aside0.mk k1; have K2 := Aside0.mk k2; have K3 := Aside0.mk k3; have HB1 := Aside0.mk hb; clear k1 k2 k3 hb))
  refine bodyPost_ret (v := .tuple #[.agg #[.int .i64 8, .int .i64 15, .func (.func 170) #[] #[.pointer (some ⟨bn, 0, none⟩), .pointer (some ⟨bx, 0, none⟩)]], .bool true]) (by simp [results, Try.results127, go_sem, c0, c1, c2]) rfl ?_
  have h1 := K1.out
  have h2 := K2.out
  have h3 := K3.out
  have he : (w.alloc (.cells #[.int .i64 0, .int .i64 0, .nilFunc] 199)).heap.size = w.heap.size + 1 := by simp
  rw [he] at h1 h2 h3
  refine ⟨_, rfl, ⟨bn, bx, be, h1, h2, h3, rfl, ?_, ?_, ?_⟩, ?_⟩
  · rw [pts_set3_cell (by show bn ≠ w.heap.size; omega)]; exact k4
  · rw [pts_set3_cell (by show bx ≠ w.heap.size; omega)]; exact k5
  · rw [pts_set3_cell (by show be ≠ w.heap.size; omega)]; exact k6
  · exact below_set (below_set (below_set ((below_alloc (Below.refl w.heap.size w) _).trans (HB1.out.mono (by rw [he]; omega))) (Nat.le_refl _)) (Nat.le_refl _)) (Nat.le_refl _)
theorem pts_of_no (a0 : Int) (w : World) (h : a0 ≠ 4 ∧ a0 ≠ 16 ∧ a0 ≠ 32 ∧ a0 ≠ 64 ∧ a0 ≠ 128 ∧ a0 ≠ 256) : Calls Try.prog 127 #[.int .i64 a0] w fun e w' => e = .returned (.tuple #[.agg #[.int .i64 0, .int .i64 0, .nilFunc], .bool false]) ∧ Below w.heap.size w w' := by
  have HB := Aside0.mk (Below.refl w.heap.size w)
  have c4 : (a0 == 4) = false := beq_eq_false_iff_ne.mpr h.1
  have c16 : (a0 == 16) = false := beq_eq_false_iff_ne.mpr h.2.1
  have c32 : (a0 == 32) = false := beq_eq_false_iff_ne.mpr h.2.2.1
  have c64 : (a0 == 64) = false := beq_eq_false_iff_ne.mpr h.2.2.2.1
  have c128 : (a0 == 128) = false := beq_eq_false_iff_ne.mpr h.2.2.2.2.1
  have c256 : (a0 == 256) = false := beq_eq_false_iff_ne.mpr h.2.2.2.2.2
  clear h
  go_enter Try.func127, Try.ntmps127
  go_wp2
  refine bodyPost_ret (v := .tuple #[.agg #[.int .i64 0, .int .i64 0, .nilFunc], .bool false]) (by simp [results, Try.results127, go_sem]) rfl ?_
  exact ⟨rfl, by repeat (first | exact HB.out | apply below_alloc)⟩
theorem pts_of_yes (size b ed : Int) (F : Int → Option (Nat × Nat)) (h : pts_spec size = some (b, ed, F)) (w : World) :
    Calls Try.prog 127 #[.int .i64 size] w fun e w' => ∃ fn cap, e = .returned (.tuple #[.agg #[.int .i64 b, .int .i64 ed, .func (.func fn) #[] cap], .bool true]) ∧ pts_FnAt w' F fn cap ∧ Below w.heap.size w w' := by
  unfold pts_spec at h
  by_cases c4 : size = 4
  · rw [if_pos c4] at h
    injection h with h
    injection h with hb h
    injection h with he hF
    subst hb he hF c4
    exact (pts_of4 w).mono fun e w' ⟨v, h1, h2, h3⟩ => by
      obtain ⟨cap, rfl, h4⟩ := pts_sq_fn2 h2
      exact ⟨_, cap, h1, h4, h3⟩
  rw [if_neg c4] at h
  by_cases c16 : size = 16
  · rw [if_pos c16] at h
    injection h with h
    injection h with hb h
    injection h with he hF
    subst hb he hF c16
    exact (pts_of16 w).mono fun e w' ⟨v, h1, h2, h3⟩ => by
      obtain ⟨cap, rfl, h4⟩ := pts_sq_fn4 h2
      exact ⟨_, cap, h1, h4, h3⟩
  rw [if_neg c16] at h
  by_cases c32 : size = 32
  · rw [if_pos c32] at h
    injection h with h
    injection h with hb h
    injection h with he hF
    subst hb he hF c32
    exact (pts_of32 w).mono fun e w' ⟨v, h1, h2, h3⟩ => by
      obtain ⟨cap, rfl, h4⟩ := pts_cr_fn h2
      exact ⟨_, cap, h1, h4, h3⟩
  rw [if_neg c32] at h
  by_cases c64 : size = 64
  · rw [if_pos c64] at h
    injection h with h
    injection h with hb h
    injection h with he hF
    subst hb he hF c64
    exact (pts_of64 w).mono fun e w' ⟨v, h1, h2, h3⟩ => by
      obtain ⟨cap, rfl, h4⟩ := pts_sq_fn6 h2
      exact ⟨_, cap, h1, h4, h3⟩
  rw [if_neg c64] at h
  by_cases c128 : size = 128
  · rw [if_pos c128] at h
    injection h with h
    injection h with hb h
    injection h with he hF
    subst hb he hF c128
    exact (pts_of128 w).mono fun e w' ⟨v, h1, h2, h3⟩ => by
      obtain ⟨cap, rfl, h4⟩ := pts_cr_fn h2
      exact ⟨_, cap, h1, h4, h3⟩
  rw [if_neg c128] at h
  by_cases c256 : size = 256
  · rw [if_pos c256] at h
    injection h with h
    injection h with hb h
    injection h with he hF
    subst hb he hF c256
    exact (pts_of256 w).mono fun e w' ⟨v, h1, h2, h3⟩ => by
      obtain ⟨cap, rfl, h4⟩ := pts_sq_fn8 h2
      exact ⟨_, cap, h1, h4, h3⟩
  rw [if_neg c256] at h
  cases h
theorem pts_of_none (size : Int) (h : pts_spec size = none) (w : World) : Calls Try.prog 127 #[.int .i64 size] w fun e w' => e = .returned (.tuple #[.agg #[.int .i64 0, .int .i64 0, .nilFunc], .bool false]) ∧ Below w.heap.size w w' := by
  refine pts_of_no size w ?_
  unfold pts_spec at h
  refine ⟨?_, ?_, ?_, ?_, ?_, ?_⟩ <;> (rintro rfl; simp at h)
def pts_fnOf (size : Int) : Nat := if size = 32 ∨ size = 128 then 171 else 170
theorem pts_fnOf_or (size : Int) : pts_fnOf size = 170 ∨ pts_fnOf size = 171 := by unfold pts_fnOf; split <;> simp
theorem pts_of_fn (size b ed : Int) (F : Int → Option (Nat × Nat)) (h : pts_spec size = some (b, ed, F)) (w : World) :
    Calls Try.prog 127 #[.int .i64 size] w fun e w' => ∃ cap, e = .returned (.tuple #[.agg #[.int .i64 b, .int .i64 ed, .func (.func (pts_fnOf size)) #[] cap], .bool true]) ∧ pts_FnAt w' F (pts_fnOf size) cap ∧ Below w.heap.size w w' := by
  unfold pts_spec at h
  by_cases c4 : size = 4
  · rw [if_pos c4] at h
    injection h with h
    injection h with hb h
    injection h with he hF
    subst hb he hF c4
    exact (pts_of4 w).mono fun e w' ⟨v, h1, h2, h3⟩ => by
      obtain ⟨cap, rfl, h4⟩ := pts_sq_fn2 h2
      exact ⟨cap, h1, h4, h3⟩
  rw [if_neg c4] at h
  by_cases c16 : size = 16
  · rw [if_pos c16] at h
    injection h with h
    injection h with hb h
    injection h with he hF
    subst hb he hF c16
    exact (pts_of16 w).mono fun e w' ⟨v, h1, h2, h3⟩ => by
      obtain ⟨cap, rfl, h4⟩ := pts_sq_fn4 h2
      exact ⟨cap, h1, h4, h3⟩
  rw [if_neg c16] at h
  by_cases c32 : size = 32
  · rw [if_pos c32] at h
    injection h with h
    injection h with hb h
    injection h with he hF
    subst hb he hF c32
    exact (pts_of32 w).mono fun e w' ⟨v, h1, h2, h3⟩ => by
      obtain ⟨cap, rfl, h4⟩ := pts_cr_fn h2
      exact ⟨cap, h1, h4, h3⟩
  rw [if_neg c32] at h
  by_cases c64 : size = 64
  · rw [if_pos c64] at h
    injection h with h
    injection h with hb h
    injection h with he hF
    subst hb he hF c64
    exact (pts_of64 w).mono fun e w' ⟨v, h1, h2, h3⟩ => by
      obtain ⟨cap, rfl, h4⟩ := pts_sq_fn6 h2
      exact ⟨cap, h1, h4, h3⟩
  rw [if_neg c64] at h
  by_cases c128 : size = 128
  · rw [if_pos c128] at h
    injection h with h
    injection h with hb h
    injection h with he hF
    subst hb he hF c128
    exact (pts_of128 w).mono fun e w' ⟨v, h1, h2, h3⟩ => by
      obtain ⟨cap, rfl, h4⟩ := pts_cr_fn h2
      exact ⟨cap, h1, h4, h3⟩
  rw [if_neg c128] at h
  by_cases c256 : size = 256
  · rw [if_pos c256] at h
    injection h with h
    injection h with hb h
    injection h with he hF
    subst hb he hF c256
    exact (pts_of256 w).mono fun e w' ⟨v, h1, h2, h3⟩ => by
      obtain ⟨cap, rfl, h4⟩ := pts_sq_fn8 h2
      exact ⟨cap, h1, h4, h3⟩
  rw [if_neg c256] at h
  cases h
theorem pts_below_call {w w1 w2 : World} {o : Obj} (h : Below w.heap.size w w1) (k : Below (w1.alloc o).heap.size (w1.alloc o) w2) : Below w.heap.size w w2 := (below_alloc h o).trans (k.mono (below_alloc h o).size)

/-! ### points_All: function 56 -/
--WALK
attribute [local go_sem] pts_run_store_func pts_run_store_nilFunc
set_option maxHeartbeats 8000000 in
set_option maxRecDepth 100000 in
theorem pts_all_yes170 (size b ed : Int) (F : Int → Option (Nat × Nat)) (xs : List (Nat × Nat)) (h : pts_spec size = some (b, ed, F)) (hf : pts_fnOf size = 170) (hs : 0 ≤ size ∧ size ≤ 256) (hx : (xs.length : Int) = size) (hF : ∀ j : Nat, j < xs.length → F (j : Int) = xs[j]?) (w : World) :
  Calls Try.prog 56 #[.int .i64 size] w fun e w' => ∃ v0_ : Value, e = .returned (.tuple #[v0_, .int .i64 0]) ∧ Kd.R Kd.cplx 32 w' w.heap.size (fun _ => True) v0_ xs ∧ Below w.heap.size w w' := by
 have H := pts_of_fn size b ed F h
 rw [hf] at H
 have HO := Aside0.mk H
 have HX := Aside0.mk hF
 have HL := Aside0.mk hx
 have HS := Aside0.mk hs
 have hlen : (List.replicate size.toNat ((0, 0) : Nat × Nat)).length = xs.length := by rw [List.length_replicate]; omega
 have HN := Aside0.mk hlen
 clear h hF H hf hx hs hlen
 go_enter Try.func56, Try.ntmps56
 go_wp2_with (first
  | (go_at_call 127; refine (HO.out _).mono ?_; rintro e w1 ⟨cap, rfl, hF, hb⟩; have HB := Aside0.mk hb; have HF := Aside0.mk hF; clear hb hF)
  | ((with_reducible refine gate_dst (N := 16) rfl ?_); go_loud (refine Kd.R_make Kd.cplx _ 32 rfl (N := 16) rfl 24 _ _ rfl size rfl rfl Try.underlying24 (.complex .f64 0 0) 16 info32 rfl (by decide) (by omega) ((0, 0) : Nat × Nat) (ok := fun _ => True) (okp := fun _ => True) rfl (fun _ hk => hk) trivial (by have := HS.out; omega) (by have := HS.out; omega) (Below.refl _ _) (Nat.le_refl _) ?_; intro v2 w2 ho hb2 hg2 hn2; have HR := Aside0.mk ho; have HB2 := Aside0.mk hb2; clear ho hb2 hg2 hn2; obtain ⟨Ao, co, eo⟩ := Kd.R_slice HR.out; rw [HN.out] at eo; subst eo)))
 go_wp2
 go_loopg [7, 19] (xs.length + 1) (fun kq v7 v19 w' => ∃ (x : Int) (ys : List (Nat × Nat)), v19 = .int .i64 x ∧ Aside0 (0 ≤ x ∧ (x + kq = xs.length + 1 ∧ x ≤ xs.length) ∧ ys.length = xs.length ∧ ∀ j : Nat, (j : Int) < x → ys[j]? = xs[j]?) ∧ Aside0 (Kd.R Kd.cplx 32 w' (w1.alloc (.cells #[.int .i64 b, .int .i64 ed, .func (.func 170) #[] cap] 199)).heap.size (fun _ => True) (.slice Ao xs.length co) ys) ∧ Aside0 (Below (w1.alloc (.cells #[.int .i64 b, .int .i64 ed, .func (.func 170) #[] cap] 199)).heap.size (w1.alloc (.cells #[.int .i64 b, .int .i64 ed, .func (.func 170) #[] cap] 199)) w'))
 case atStart => exact ⟨0, _, rfl, ⟨by omega, ⟨by omega, by omega⟩, HN.out, fun j hj => by omega⟩, HR, HB2⟩
 case round =>
  obtain ⟨x, ys, rfl, HK, HR', HB'⟩ := hrel
  have hs2 : wr.cell? ⟨w1.heap.size, 2, none⟩ = some (.func (.func 170) #[] cap) := (HB'.out.cell (p := ⟨w1.heap.size, 2, none⟩) (by simp)).trans (by simp [go_sem])
  have h0 : 0 ≤ x := HK.out.1
  by_cases hlt : x < (xs.length : Int)
  ·have hlt' : decide (x < (xs.length : Int)) = true := decide_eq_true hlt
   obtain ⟨r, hr1, hr2⟩ : ∃ r, xs[x.toNat]? = some r ∧ F x = some r := by
    have h1 := HX.out x.toNat (by omega)
    rw [show ((x.toNat : Nat) : Int) = x by omega, List.getElem?_eq_getElem (by omega)] at h1
    exact ⟨_, List.getElem?_eq_getElem (by omega), h1⟩
   obtain ⟨g, c2, eg, gb, gl, cl, HG⟩ := Kd.R_form HR'.out (by have := HK.out.2.2.1; omega)
   injection eg with ea en ec
   subst ea ec
   have R1 := Aside0.mk hr1
   have R2 := Aside0.mk hr2
   have GB := Aside0.mk gb
   have H0 := Aside0.mk h0
   have HLT := Aside0.mk hlt
   have hb1 : Below w1.heap.size w1 wr := ((Below.refl w1.heap.size w1).alloc (Nat.le_refl _) _).trans (HB'.out.mono (by simp))
   have HB1 := Aside0.mk hb1
   cases gk with
   | zero => have := HK.out.2.1.1; have := HK.out.2.1.2; omega
   | succ k1 =>
   clear hr1 hr2 gb gl cl HG en hb1
   have p1 := eq_true h0
   have p2 := eq_true hlt
   clear h0 hlt
   go_wp2_with (first
    | (go_at_call 170; (refine (HF.out _ HB1.out _ _ R2.out).mono ?_; rintro e w3 ⟨rfl, hb3⟩; have HR3 := Aside0.mk (Kd.R_below HR'.out hb3); have HB3 := Aside0.mk (HB'.out.trans (hb3.mono HB'.out.size)); clear hb3; obtain ⟨hx3, hf3⟩ := Kd.R_celln ((0, 0) : Nat × Nat) HR3.out x H0.out HLT.out)))
   have hw : wrap64 (x + 1) = x + 1 := by have := HLT.out; have := H0.out; have := HL.out; have := HS.out; unfold wrap64; omega
   have HW := Aside0.mk hw
   clear hw
   have HP := Aside0.mk (Kd.R_putg HR3.out x r)
   go_roundg k1
   case measure => omega
   case rel =>
    refine ⟨wrap64 (x + 1), ys.set x.toNat r, rfl, ⟨?_⟩, ⟨HP.out.1⟩, ⟨HB3.out.setCell GB.out _⟩⟩
    rw [HW.out]
    have q1 := HK.out.2.1.1
    have q2 := HK.out.2.2.1
    have q3 := HLT.out
    have q4 := H0.out
    refine ⟨by omega, ⟨by omega, by omega⟩, by rw [List.length_set]; exact q2, fun j hj => ?_⟩
    by_cases e : j = x.toNat
    ·subst e
     rw [List.getElem?_set_self (by omega), R1.out]
    ·rw [List.getElem?_set_ne (by omega)]
     exact HK.out.2.2.2 j (by omega)
  ·have hlt' : decide (x < (xs.length : Int)) = false := decide_eq_false hlt
   have hx : x = xs.length := by have := HK.out.2.1.1; have := HK.out.2.1.2; omega
   have hys : ys = xs := by
    apply List.ext_getElem?
    intro j
    by_cases hj : j < xs.length
    ·exact HK.out.2.2.2 j (by omega)
    ·rw [List.getElem?_eq_none (by have := HK.out.2.2.1; omega), List.getElem?_eq_none (by omega)]
   subst hys
   clear hlt h0 hx
   go_wp2
   go_ret2
   exact ⟨_, rfl, Kd.R_lower HR'.out (by have := HB.out.size; simp; omega), pts_below_call HB.out HB'.out⟩
set_option maxHeartbeats 8000000 in
set_option maxRecDepth 100000 in
theorem pts_all_yes171 (size b ed : Int) (F : Int → Option (Nat × Nat)) (xs : List (Nat × Nat)) (h : pts_spec size = some (b, ed, F)) (hf : pts_fnOf size = 171) (hs : 0 ≤ size ∧ size ≤ 256) (hx : (xs.length : Int) = size) (hF : ∀ j : Nat, j < xs.length → F (j : Int) = xs[j]?) (w : World) :
  Calls Try.prog 56 #[.int .i64 size] w fun e w' => ∃ v0_ : Value, e = .returned (.tuple #[v0_, .int .i64 0]) ∧ Kd.R Kd.cplx 32 w' w.heap.size (fun _ => True) v0_ xs ∧ Below w.heap.size w w' := by
 have H := pts_of_fn size b ed F h
 rw [hf] at H
 have HO := Aside0.mk H
 have HX := Aside0.mk hF
 have HL := Aside0.mk hx
 have HS := Aside0.mk hs
 have hlen : (List.replicate size.toNat ((0, 0) : Nat × Nat)).length = xs.length := by rw [List.length_replicate]; omega
 have HN := Aside0.mk hlen
 clear h hF H hf hx hs hlen
 go_enter Try.func56, Try.ntmps56
 go_wp2_with (first
  | (go_at_call 127; refine (HO.out _).mono ?_; rintro e w1 ⟨cap, rfl, hF, hb⟩; have HB := Aside0.mk hb; have HF := Aside0.mk hF; clear hb hF)
  | ((with_reducible refine gate_dst (N := 16) rfl ?_); go_loud (refine Kd.R_make Kd.cplx _ 32 rfl (N := 16) rfl 24 _ _ rfl size rfl rfl Try.underlying24 (.complex .f64 0 0) 16 info32 rfl (by decide) (by omega) ((0, 0) : Nat × Nat) (ok := fun _ => True) (okp := fun _ => True) rfl (fun _ hk => hk) trivial (by have := HS.out; omega) (by have := HS.out; omega) (Below.refl _ _) (Nat.le_refl _) ?_; intro v2 w2 ho hb2 hg2 hn2; have HR := Aside0.mk ho; have HB2 := Aside0.mk hb2; clear ho hb2 hg2 hn2; obtain ⟨Ao, co, eo⟩ := Kd.R_slice HR.out; rw [HN.out] at eo; subst eo)))
 go_wp2
 go_loopg [7, 19] (xs.length + 1) (fun kq v7 v19 w' => ∃ (x : Int) (ys : List (Nat × Nat)), v19 = .int .i64 x ∧ Aside0 (0 ≤ x ∧ (x + kq = xs.length + 1 ∧ x ≤ xs.length) ∧ ys.length = xs.length ∧ ∀ j : Nat, (j : Int) < x → ys[j]? = xs[j]?) ∧ Aside0 (Kd.R Kd.cplx 32 w' (w1.alloc (.cells #[.int .i64 b, .int .i64 ed, .func (.func 171) #[] cap] 199)).heap.size (fun _ => True) (.slice Ao xs.length co) ys) ∧ Aside0 (Below (w1.alloc (.cells #[.int .i64 b, .int .i64 ed, .func (.func 171) #[] cap] 199)).heap.size (w1.alloc (.cells #[.int .i64 b, .int .i64 ed, .func (.func 171) #[] cap] 199)) w'))
 case atStart => exact ⟨0, _, rfl, ⟨by omega, ⟨by omega, by omega⟩, HN.out, fun j hj => by omega⟩, HR, HB2⟩
 case round =>
  obtain ⟨x, ys, rfl, HK, HR', HB'⟩ := hrel
  have hs2 : wr.cell? ⟨w1.heap.size, 2, none⟩ = some (.func (.func 171) #[] cap) := (HB'.out.cell (p := ⟨w1.heap.size, 2, none⟩) (by simp)).trans (by simp [go_sem])
  have h0 : 0 ≤ x := HK.out.1
  by_cases hlt : x < (xs.length : Int)
  ·have hlt' : decide (x < (xs.length : Int)) = true := decide_eq_true hlt
   obtain ⟨r, hr1, hr2⟩ : ∃ r, xs[x.toNat]? = some r ∧ F x = some r := by
    have h1 := HX.out x.toNat (by omega)
    rw [show ((x.toNat : Nat) : Int) = x by omega, List.getElem?_eq_getElem (by omega)] at h1
    exact ⟨_, List.getElem?_eq_getElem (by omega), h1⟩
   obtain ⟨g, c2, eg, gb, gl, cl, HG⟩ := Kd.R_form HR'.out (by have := HK.out.2.2.1; omega)
   injection eg with ea en ec
   subst ea ec
   have R1 := Aside0.mk hr1
   have R2 := Aside0.mk hr2
   have GB := Aside0.mk gb
   have H0 := Aside0.mk h0
   have HLT := Aside0.mk hlt
   have hb1 : Below w1.heap.size w1 wr := ((Below.refl w1.heap.size w1).alloc (Nat.le_refl _) _).trans (HB'.out.mono (by simp))
   have HB1 := Aside0.mk hb1
   cases gk with
   | zero => have := HK.out.2.1.1; have := HK.out.2.1.2; omega
   | succ k1 =>
   clear hr1 hr2 gb gl cl HG en hb1
   have p1 := eq_true h0
   have p2 := eq_true hlt
   clear h0 hlt
   go_wp2_with (first
    | (go_at_call 171; (refine (HF.out _ HB1.out _ _ R2.out).mono ?_; rintro e w3 ⟨rfl, hb3⟩; have HR3 := Aside0.mk (Kd.R_below HR'.out hb3); have HB3 := Aside0.mk (HB'.out.trans (hb3.mono HB'.out.size)); clear hb3; obtain ⟨hx3, hf3⟩ := Kd.R_celln ((0, 0) : Nat × Nat) HR3.out x H0.out HLT.out)))
   have hw : wrap64 (x + 1) = x + 1 := by have := HLT.out; have := H0.out; have := HL.out; have := HS.out; unfold wrap64; omega
   have HW := Aside0.mk hw
   clear hw
   have HP := Aside0.mk (Kd.R_putg HR3.out x r)
   go_roundg k1
   case measure => omega
   case rel =>
    refine ⟨wrap64 (x + 1), ys.set x.toNat r, rfl, ⟨?_⟩, ⟨HP.out.1⟩, ⟨HB3.out.setCell GB.out _⟩⟩
    rw [HW.out]
    have q1 := HK.out.2.1.1
    have q2 := HK.out.2.2.1
    have q3 := HLT.out
    have q4 := H0.out
    refine ⟨by omega, ⟨by omega, by omega⟩, by rw [List.length_set]; exact q2, fun j hj => ?_⟩
    by_cases e : j = x.toNat
    ·subst e
     rw [List.getElem?_set_self (by omega), R1.out]
    ·rw [List.getElem?_set_ne (by omega)]
     exact HK.out.2.2.2 j (by omega)
  ·have hlt' : decide (x < (xs.length : Int)) = false := decide_eq_false hlt
   have hx : x = xs.length := by have := HK.out.2.1.1; have := HK.out.2.1.2; omega
   have hys : ys = xs := by
    apply List.ext_getElem?
    intro j
    by_cases hj : j < xs.length
    ·exact HK.out.2.2.2 j (by omega)
    ·rw [List.getElem?_eq_none (by have := HK.out.2.2.1; omega), List.getElem?_eq_none (by omega)]
   subst hys
   clear hlt h0 hx
   go_wp2
   go_ret2
   exact ⟨_, rfl, Kd.R_lower HR'.out (by have := HB.out.size; simp; omega), pts_below_call HB.out HB'.out⟩
theorem pts_all_no (size : Int) (h : pts_spec size = none) (w : World) :
  Calls Try.prog 56 #[.int .i64 size] w fun e w' => e = .returned (.tuple #[.slice none 0 0, .int .i64 1]) ∧ Below w.heap.size w w' := by
 have H := Aside0.mk h
 clear h
 go_enter Try.func56, Try.ntmps56
 go_wp2_with (first | (go_at_call 127; refine (pts_of_none _ H.out _).mono ?_; rintro e w1 ⟨rfl, hb⟩; have HB := Aside0.mk hb; clear hb))
 go_ret2
 exact ⟨by first | rfl | (simp [go_sem]; done), by repeat (first | exact HB.out | apply below_alloc)⟩
theorem pts_all_ok (F : Int → Option (Nat × Nat)) : ∀ (n : Nat) (xs : List (Nat × Nat)), pts_all F n = some xs → xs.length = n ∧ ∀ j : Nat, j < n → F (j : Int) = xs[j]? := by
 intro n
 induction n with
 | zero =>
  intro xs h
  obtain rfl := Option.some.inj h
  exact ⟨rfl, fun j hj => by omega⟩
 | succ n ih =>
  intro xs h
  obtain ⟨l, h1, h⟩ := Option.bind_eq_some_iff.1 h
  obtain ⟨r, h2, h⟩ := Option.bind_eq_some_iff.1 h
  obtain rfl := Option.some.inj h
  obtain ⟨h3, h4⟩ := ih l h1
  refine ⟨by rw [List.length_append, h3]; rfl, fun j hj => ?_⟩
  by_cases e : j < n
  ·rw [h4 j e, List.getElem?_append_left (by omega)]
  ·have : j = n := by omega
   subst this
   rw [h2, List.getElem?_append_right (by omega), h3, Nat.sub_self]
   rfl
theorem pts_spec_size (size b ed : Int) (F : Int → Option (Nat × Nat)) (h : pts_spec size = some (b, ed, F)) : 0 ≤ size ∧ size ≤ 256 := by
 unfold pts_spec at h
 repeat (split at h; · omega)
 cases h
theorem points_All.calls (a0 : Int) (r1 : List (Nat × Nat)) (r2 : Int) (w : World) (h : points_All.f a0 = some (r1, r2)) :
  Calls Try.prog 56 #[.int .i64 a0] w fun e w' => ∃ v0_ : Value, e = .returned (.tuple #[v0_, .int .i64 r2]) ∧ Kd.R Kd.cplx 32 w' w.heap.size (fun _ => True) v0_ r1 ∧ Below w.heap.size w w' := by
 unfold points_All.f at h
 cases hs : pts_spec a0 with
 | none =>
  rw [hs] at h
  obtain ⟨rfl, rfl⟩ := Prod.mk.inj (Option.some.inj h)
  exact (pts_all_no a0 hs w).mono fun e w' ⟨he, hb⟩ => ⟨_, he, Kd.R_nil _ _ _ _ _, hb⟩
 | some x =>
  obtain ⟨b, ed, F⟩ := x
  rw [hs] at h
  obtain ⟨l, h1, h2⟩ := Option.bind_eq_some_iff.1 h
  obtain ⟨rfl, rfl⟩ := Prod.mk.inj (Option.some.inj h2)
  have hz := pts_spec_size a0 b ed F hs
  obtain ⟨h3, h4⟩ := pts_all_ok F a0.toNat l h1
  rcases pts_fnOf_or a0 with hf | hf
  ·exact pts_all_yes170 a0 b ed F l hs hf hz (by omega) (fun j hj => h4 j (by omega)) w
  ·exact pts_all_yes171 a0 b ed F l hs hf hz (by omega) (fun j hj => h4 j (by omega)) w

/-! ### math_Inf: function 76 -/
set_option maxHeartbeats 8000000 in
set_option maxRecDepth 100000 in
theorem math_Inf.calls (a0 : Int) (r : Nat) (w : World) (h : math_Inf.f a0 = some r) :
  Calls Try.prog 76 #[.int .i64 a0] w fun e w' => e = .returned (.float .f64 r) ∧ Drawn0 w w' := by
 have H : (if a0 ≥ 0 then (some 9218868437227405312) else (some 18442240474082181120)) = some r := h
 clear h
 by_cases c2 : a0 ≥ 0
 ·rw [if_pos c2] at H
  have c2b0 : decide (0 ≤ a0) = true := decide_eq_true c2
  clear c2
  obtain rfl := Option.some.inj H
  have hfo3_ := ext101 9218868437227405312
  go_enter Try.func76, Try.ntmps76
  go_wp2
  go_ret
  exact ⟨by first | rfl | (simp; done) | (simp [*]; done), by repeat (first | exact Drawn0.refl _ | apply Drawn0.step)⟩
 ·rw [if_neg c2] at H
  have c2b0 : decide (0 ≤ a0) = false := decide_eq_false c2
  clear c2
  obtain rfl := Option.some.inj H
  have hfo4_ := ext101 18442240474082181120
  go_enter Try.func76, Try.ntmps76
  go_wp2
  go_ret
  exact ⟨by first | rfl | (simp; done) | (simp [*]; done), by repeat (first | exact Drawn0.refl _ | apply Drawn0.step)⟩

/-! ### plane_Norm: function 130 -/
set_option maxHeartbeats 8000000 in
set_option maxRecDepth 100000 in
theorem plane_Norm.calls (a0 : (Nat × Nat)) (r : Nat) (w : World) (h : plane_Norm.f a0 = some r) :
  Calls Try.prog 130 #[.complex .f64 a0.1 a0.2] w fun e w' => e = .returned (.float .f64 r) ∧ Below w.heap.size w w' := by
 have HB := Aside0.mk (Below.refl w.heap.size w)
 have H : ((floatBits .mul .f64 a0.1 a0.1).bind fun t342 => ((floatBits .mul .f64 a0.2 a0.2).bind fun t343 => ((floatBits .add .f64 t342 t343).bind fun t344 => (some t344)))) = some r := h
 clear h
 replace H := Option.bind_eq_some_iff.mp H
 obtain ⟨t342, A20, H⟩ := H
 replace H : ((floatBits .mul .f64 a0.2 a0.2).bind fun t343 => ((floatBits .add .f64 t342 t343).bind fun t344 => (some t344))) = some r := H
 have A2 := Aside0.mk A20
 clear A20
 replace H := Option.bind_eq_some_iff.mp H
 obtain ⟨t343, A30, H⟩ := H
 replace H : ((floatBits .add .f64 t342 t343).bind fun t344 => (some t344)) = some r := H
 have A3 := Aside0.mk A30
 clear A30
 replace H := Option.bind_eq_some_iff.mp H
 obtain ⟨t344, A40, H⟩ := H
 replace H : (some t344) = some r := H
 have A4 := Aside0.mk A40
 clear A40
 obtain rfl := Option.some.inj H
 have hfoA2_ := fun (t_ : TypeId) (w_ : World) => run_float_arith (P := Try.prog) w_ .mul t_ .f64 a0.1 a0.1 t342 A2.out
 have hfoA3_ := fun (t_ : TypeId) (w_ : World) => run_float_arith (P := Try.prog) w_ .mul t_ .f64 a0.2 a0.2 t343 A3.out
 have hfoA4_ := fun (t_ : TypeId) (w_ : World) => run_float_arith (P := Try.prog) w_ .add t_ .f64 t342 t343 t344 A4.out
 go_enter Try.func130, Try.ntmps130
 go_wp2
 go_ret
 exact ⟨by first | rfl | (simp [errW_none, errW_some] <;> rfl) | (simp [*, errW_none, errW_some] <;> rfl), by repeat (first | (with_reducible first | exact HB.out | apply below_alloc | apply pw_below_drewN | apply below_drew1) | exact HB.out)⟩

/-! ### plane_Apart: function 157 -/
set_option maxHeartbeats 8000000 in
set_option maxRecDepth 100000 in
theorem plane_Apart.calls (a0 : (Nat × Nat)) (a1 : (Nat × Nat)) (r : Nat) (w : World) (h : plane_Apart.f a0 a1 = some r) :
  Calls Try.prog 157 #[.complex .f64 a0.1 a0.2, .complex .f64 a1.1 a1.2] w fun e w' => e = .returned (.float .f64 r) ∧ Below w.heap.size w w' := by
 have HB := Aside0.mk (Below.refl w.heap.size w)
 have H : ((cSumBits .sub .f64 a0.1 a0.2 a1.1 a1.2).bind fun t345 => ((plane_Norm.f t345).bind fun t346 => (some t346))) = some r := h
 clear h
 replace H := Option.bind_eq_some_iff.mp H
 obtain ⟨t345, A30, H⟩ := H
 replace H : ((plane_Norm.f t345).bind fun t346 => (some t346)) = some r := H
 have A3 := Aside0.mk A30
 clear A30
 replace H := Option.bind_eq_some_iff.mp H
 obtain ⟨t346, A40, H⟩ := H
 replace H : (some t346) = some r := H
 have A4 := Aside0.mk A40
 clear A40
 obtain rfl := Option.some.inj H
 have hfoA3_ := fun (t_ : TypeId) (w_ : World) => run_complex_sum (P := Try.prog) w_ .sub (by decide) t_ .f64 a0.1 a0.2 a1.1 a1.2 t345.1 t345.2 A3.out
 go_enter Try.func157, Try.ntmps157
 go_wp2_with (first | ((with_reducible refine gate_callee (f := 130) rfl ?_); refine goesL_ (some 8) rfl rfl Try.func130 (by kernel_rfl) rfl #[.complex .f64 t345.1 t345.2] rfl (by (try simp only [List.map_toArray, List.map_cons, List.map_nil]); first | done | rfl | (simp only [List.length_drop, List.length_take]; rfl)) ?_; (with_reducible refine (plane_Norm.calls t345 t346 _ A4.out).mono ?_); rintro e w5 ⟨rfl, hb⟩; refine ⟨_, rfl, ?_⟩; have n0_ := Aside0.mk (below_step (by repeat (first | (with_reducible first | exact HB.out | apply below_alloc | apply pw_below_drewN | apply below_drew1) | exact HB.out)) hb); clear HB; have HB := n0_; clear n0_; (try clear hb); (try clear hb2); (try clear hk); (try clear hi)))
 go_ret
 exact ⟨by first | rfl | (simp [errW_none, errW_some] <;> rfl) | (simp [*, errW_none, errW_some] <;> rfl), by repeat (first | (with_reducible first | exact HB.out | apply below_alloc | apply pw_below_drewN | apply below_drew1) | exact HB.out)⟩

/-! ### meter_nearest: function 128 -/
set_option maxHeartbeats 8000000 in
set_option maxRecDepth 100000 in
theorem meter_nearest.calls (k : Nat) (A0 : Option Addr) (c0 : Nat) (l0 : List (Nat × Nat)) (a1 : (Nat × Nat)) (r1 : Int) (r2 : Nat) (r3 : Nat) (w : World) (hr0 : Kd.C Kd.cplx w A0 l0.length l0) (hc0 : l0.length ≤ c0) (h : meter_nearest.f k l0 a1 = some (r1, r2, r3)) :
  Calls Try.prog 128 #[.slice A0 l0.length c0, .complex .f64 a1.1 a1.2] w fun e w' => e = .returned (.tuple #[.int .i64 r1, .float .f64 r2, .float .f64 r3]) ∧ Below w.heap.size w w' := by
 have HR0 := Aside0.mk hr0
 have HC0 := Aside0.mk hc0
 clear hr0 hc0
 have HB := Aside0.mk (Below.refl w.heap.size w)
 have H : ((math_Inf.f 1).bind fun t347 => ((math_Inf.f 1).bind fun t348 => (meter_nearest.l0 k a1 0 t347 t348 l0 (l0.length : Int) 0))) = some (r1, r2, r3) := h
 clear h
 replace H := Option.bind_eq_some_iff.mp H
 obtain ⟨t347, A30, H⟩ := H
 replace H : ((math_Inf.f 1).bind fun t348 => (meter_nearest.l0 k a1 0 t347 t348 l0 (l0.length : Int) 0)) = some (r1, r2, r3) := H
 have A3 := Aside0.mk A30
 clear A30
 replace H := Option.bind_eq_some_iff.mp H
 obtain ⟨t348, A40, H⟩ := H
 replace H : (meter_nearest.l0 k a1 0 t347 t348 l0 (l0.length : Int) 0) = some (r1, r2, r3) := H
 have A4 := Aside0.mk A40
 clear A40
 obtain rfl := Option.some.inj (A3.out.symm.trans A4.out)
 have H' := Aside0.mk H
 clear H
 go_enter Try.func128, Try.ntmps128
 go_wp2_with (first | ((with_reducible refine gate_callee (f := 76) rfl ?_); refine goesL_ (some 10) rfl rfl Try.func76 (by kernel_rfl) rfl #[.int .i64 1] rfl (by (try simp only [List.map_toArray, List.map_cons, List.map_nil]); first | done | rfl | (simp only [List.length_drop, List.length_take]; rfl)) ?_; (with_reducible refine (math_Inf.calls 1 t347 _ A3.out).mono ?_); rintro e w' ⟨rfl, ⟨nd, rfl⟩⟩; refine ⟨_, rfl, ?_⟩) | ((with_reducible refine gate_callee (f := 76) rfl ?_); refine goesL_ (some 11) rfl rfl Try.func76 (by kernel_rfl) rfl #[.int .i64 1] rfl (by (try simp only [List.map_toArray, List.map_cons, List.map_nil]); first | done | rfl | (simp only [List.length_drop, List.length_take]; rfl)) ?_; (with_reducible refine (math_Inf.calls 1 t347 _ A4.out).mono ?_); rintro e w' ⟨rfl, ⟨nd, rfl⟩⟩; refine ⟨_, rfl, ?_⟩))
 go_loopg [4, 5, 6, 14] k (fun kq v4 v5 v6 v14 w' => ∃ (x4_1 : Int) (x5_1 : Nat) (x6_1 : Nat) (x14_1 : Int), v4 = .int .i64 x4_1 ∧ v5 = .float .f64 x5_1 ∧ v6 = .float .f64 x6_1 ∧ v14 = .int .i64 x14_1 ∧ Aside0 (meter_nearest.l0 kq a1 x4_1 x5_1 x6_1 l0 (l0.length : Int) x14_1 = some (r1, r2, r3)) ∧ Aside0 (kq ≤ k) ∧ Aside0 (Below w.heap.size w w'))
 case atStart => exact ⟨(0), (t347), (t347), (0), (by first | rfl | (simp; done) | (simp [*]; done)), (by first | rfl | (simp; done) | (simp [*]; done)), (by first | rfl | (simp; done) | (simp [*]; done)), (by first | rfl | (simp; done) | (simp [*]; done)), H', ⟨Nat.le_refl _⟩, ⟨by repeat (first | (with_reducible first | exact HB.out | apply below_alloc | apply pw_below_drewN | apply below_drew1) | exact HB.out)⟩⟩
 case round =>
  clear H'
  try clear c1
  try clear p2
  obtain ⟨x4_1, x5_1, x6_1, x14_1, rfl, rfl, rfl, rfl, HA, HK1, HB⟩ := hrel
  cases gk with
  | zero => exact absurd HA.out (by simp [meter_nearest.l0])
  | succ k1 =>
   have H := HA.out
   clear HA
   simp only [meter_nearest.l0] at H
   by_cases c5 : x14_1 < (l0.length : Int)
   ·rw [if_pos c5] at H
    have c5b0 : decide (x14_1 < (l0.length : Int)) = true := decide_eq_true c5
    clear c5
    by_cases c6 : 0 ≤ x14_1
    ·rw [if_pos c6] at H
     have c6b0 : decide (0 ≤ x14_1) = true := decide_eq_true c6
     clear c6
     by_cases c7 : x14_1 < (l0.length : Int)
     ·rw [if_pos c7] at H
      have c7b0 : decide (x14_1 < (l0.length : Int)) = true := decide_eq_true c7
      clear c7
      replace H := Option.bind_eq_some_iff.mp H
      obtain ⟨t350, A80, H⟩ := H
      replace H : (if (FloatKind.f64.format.order t350 x5_1 == some .lt) = true then (meter_nearest.l0 k1 a1 x14_1 t350 x5_1 l0 (l0.length : Int) (wrap64 (x14_1 + 1))) else (if (FloatKind.f64.format.order t350 x6_1 == some .lt) = true then (meter_nearest.l0 k1 a1 x4_1 x5_1 t350 l0 (l0.length : Int) (wrap64 (x14_1 + 1))) else (meter_nearest.l0 k1 a1 x4_1 x5_1 x6_1 l0 (l0.length : Int) (wrap64 (x14_1 + 1))))) = some (r1, r2, r3) := H
      have A8 := Aside0.mk A80
      clear A80
      by_cases c9 : (FloatKind.f64.format.order t350 x5_1 == some .lt) = true
      ·rw [if_pos c9] at H
       have c9b0 : (FloatKind.f64.format.order t350 x5_1 == some .lt) = true := c9
       (try (have c9b1 : decide (FloatKind.f64.format.order t350 x5_1 = some .lt) = true := by simpa using c9))
       (try (have c9b2 : (FloatKind.f64.format.order t350 x5_1 == some .lt) = true := by simpa using c9))
       clear c9
       have H' := Aside0.mk H
       clear H
       have p349 : 0 ≤ (x14_1 : Int) := of_decide_eq_true (by first | (with_reducible assumption) | assumption)
       have q349 : x14_1 < (l0.length : Int) := of_decide_eq_true (by first | (with_reducible assumption) | assumption)
       obtain ⟨ad349, e349, hx349_0⟩ := Kd.at_cplx HR0.out x14_1 p349 q349
       cases e349
       replace hx349_0 := (HB.out.cell (World.block_lt_of_cell? w _ hx349_0)).trans hx349_0
       replace p349 := eq_true p349
       replace q349 := eq_true q349
       go_wp2_with (first | ((with_reducible refine gate_callee (f := 157) rfl ?_); refine goesL_ (some 21) rfl rfl Try.func157 (by kernel_rfl) rfl #[.complex .f64 ((rdOf (0, 0) l0 x14_1).1) ((rdOf (0, 0) l0 x14_1).2), .complex .f64 a1.1 a1.2] rfl (by (try simp only [List.map_toArray, List.map_cons, List.map_nil]); first | done | rfl | (simp only [List.length_drop, List.length_take]; rfl)) ?_; (with_reducible refine (plane_Apart.calls (rdOf (0, 0) l0 x14_1) a1 t350 _ A8.out).mono ?_); rintro e w10 ⟨rfl, hb⟩; refine ⟨_, rfl, ?_⟩; have n0_ := Aside0.mk (below_step (by repeat (first | (with_reducible first | exact HB.out | apply below_alloc | apply pw_below_drewN | apply below_drew1) | exact HB.out)) hb); clear HB; have HB := n0_; clear n0_; (try clear hb); (try clear hb2); (try clear hk); (try clear hi)))
       first | go_roundg k1 | (simp only [add_plain] at *; go_roundg k1)
       case measure => have := HK1.out; omega
       case rel => exact ⟨(x14_1), (t350), (x5_1), (wrap64 (x14_1 + 1)), (by first | rfl | (simp; done) | (simp [*]; done)), (by first | rfl | (simp; done) | (simp [*]; done)), (by first | rfl | (simp; done) | (simp [*]; done)), (by first | rfl | (simp; done) | (simp [*]; done)), H', ⟨by have := HK1.out; omega⟩, ⟨by repeat (first | (with_reducible first | exact HB.out | apply below_alloc | apply pw_below_drewN | apply below_drew1) | exact HB.out)⟩⟩
      ·rw [if_neg c9] at H
       have c9b0 : (FloatKind.f64.format.order t350 x5_1 == some .lt) = false := by simpa using c9
       (try (have c9b1 : decide (FloatKind.f64.format.order t350 x5_1 = some .lt) = false := by simpa using c9))
       (try (have c9b2 : (FloatKind.f64.format.order t350 x5_1 == some .lt) = false := by simpa using c9))
       (try (have c9b3 : ¬ (FloatKind.f64.format.order t350 x5_1 = some .lt) := by simpa using c9))
       clear c9
       by_cases c11 : (FloatKind.f64.format.order t350 x6_1 == some .lt) = true
       ·rw [if_pos c11] at H
        have c11b0 : (FloatKind.f64.format.order t350 x6_1 == some .lt) = true := c11
        (try (have c11b1 : decide (FloatKind.f64.format.order t350 x6_1 = some .lt) = true := by simpa using c11))
        (try (have c11b2 : (FloatKind.f64.format.order t350 x6_1 == some .lt) = true := by simpa using c11))
        clear c11
        have H' := Aside0.mk H
        clear H
        have p349 : 0 ≤ (x14_1 : Int) := of_decide_eq_true (by first | (with_reducible assumption) | assumption)
        have q349 : x14_1 < (l0.length : Int) := of_decide_eq_true (by first | (with_reducible assumption) | assumption)
        obtain ⟨ad349, e349, hx349_0⟩ := Kd.at_cplx HR0.out x14_1 p349 q349
        cases e349
        replace hx349_0 := (HB.out.cell (World.block_lt_of_cell? w _ hx349_0)).trans hx349_0
        replace p349 := eq_true p349
        replace q349 := eq_true q349
        go_wp2_with (first | ((with_reducible refine gate_callee (f := 157) rfl ?_); refine goesL_ (some 21) rfl rfl Try.func157 (by kernel_rfl) rfl #[.complex .f64 ((rdOf (0, 0) l0 x14_1).1) ((rdOf (0, 0) l0 x14_1).2), .complex .f64 a1.1 a1.2] rfl (by (try simp only [List.map_toArray, List.map_cons, List.map_nil]); first | done | rfl | (simp only [List.length_drop, List.length_take]; rfl)) ?_; (with_reducible refine (plane_Apart.calls (rdOf (0, 0) l0 x14_1) a1 t350 _ A8.out).mono ?_); rintro e w12 ⟨rfl, hb⟩; refine ⟨_, rfl, ?_⟩; have n0_ := Aside0.mk (below_step (by repeat (first | (with_reducible first | exact HB.out | apply below_alloc | apply pw_below_drewN | apply below_drew1) | exact HB.out)) hb); clear HB; have HB := n0_; clear n0_; (try clear hb); (try clear hb2); (try clear hk); (try clear hi)))
        first | go_roundg k1 | (simp only [add_plain] at *; go_roundg k1)
        case measure => have := HK1.out; omega
        case rel => exact ⟨(x4_1), (x5_1), (t350), (wrap64 (x14_1 + 1)), (by first | rfl | (simp; done) | (simp [*]; done)), (by first | rfl | (simp; done) | (simp [*]; done)), (by first | rfl | (simp; done) | (simp [*]; done)), (by first | rfl | (simp; done) | (simp [*]; done)), H', ⟨by have := HK1.out; omega⟩, ⟨by repeat (first | (with_reducible first | exact HB.out | apply below_alloc | apply pw_below_drewN | apply below_drew1) | exact HB.out)⟩⟩
       ·rw [if_neg c11] at H
        have c11b0 : (FloatKind.f64.format.order t350 x6_1 == some .lt) = false := by simpa using c11
        (try (have c11b1 : decide (FloatKind.f64.format.order t350 x6_1 = some .lt) = false := by simpa using c11))
        (try (have c11b2 : (FloatKind.f64.format.order t350 x6_1 == some .lt) = false := by simpa using c11))
        (try (have c11b3 : ¬ (FloatKind.f64.format.order t350 x6_1 = some .lt) := by simpa using c11))
        clear c11
        have H' := Aside0.mk H
        clear H
        have p349 : 0 ≤ (x14_1 : Int) := of_decide_eq_true (by first | (with_reducible assumption) | assumption)
        have q349 : x14_1 < (l0.length : Int) := of_decide_eq_true (by first | (with_reducible assumption) | assumption)
        obtain ⟨ad349, e349, hx349_0⟩ := Kd.at_cplx HR0.out x14_1 p349 q349
        cases e349
        replace hx349_0 := (HB.out.cell (World.block_lt_of_cell? w _ hx349_0)).trans hx349_0
        replace p349 := eq_true p349
        replace q349 := eq_true q349
        go_wp2_with (first | ((with_reducible refine gate_callee (f := 157) rfl ?_); refine goesL_ (some 21) rfl rfl Try.func157 (by kernel_rfl) rfl #[.complex .f64 ((rdOf (0, 0) l0 x14_1).1) ((rdOf (0, 0) l0 x14_1).2), .complex .f64 a1.1 a1.2] rfl (by (try simp only [List.map_toArray, List.map_cons, List.map_nil]); first | done | rfl | (simp only [List.length_drop, List.length_take]; rfl)) ?_; (with_reducible refine (plane_Apart.calls (rdOf (0, 0) l0 x14_1) a1 t350 _ A8.out).mono ?_); rintro e w13 ⟨rfl, hb⟩; refine ⟨_, rfl, ?_⟩; have n0_ := Aside0.mk (below_step (by repeat (first | (with_reducible first | exact HB.out | apply below_alloc | apply pw_below_drewN | apply below_drew1) | exact HB.out)) hb); clear HB; have HB := n0_; clear n0_; (try clear hb); (try clear hb2); (try clear hk); (try clear hi)))
        first | go_roundg k1 | (simp only [add_plain] at *; go_roundg k1)
        case measure => have := HK1.out; omega
        case rel => exact ⟨(x4_1), (x5_1), (x6_1), (wrap64 (x14_1 + 1)), (by first | rfl | (simp; done) | (simp [*]; done)), (by first | rfl | (simp; done) | (simp [*]; done)), (by first | rfl | (simp; done) | (simp [*]; done)), (by first | rfl | (simp; done) | (simp [*]; done)), H', ⟨by have := HK1.out; omega⟩, ⟨by repeat (first | (with_reducible first | exact HB.out | apply below_alloc | apply pw_below_drewN | apply below_drew1) | exact HB.out)⟩⟩
     ·rw [if_neg c7] at H
      exact absurd H (by simp)
    ·rw [if_neg c6] at H
     exact absurd H (by simp)
   ·rw [if_neg c5] at H
    have c5b0 : decide (x14_1 < (l0.length : Int)) = false := decide_eq_false c5
    clear c5
    simp only [Option.some.injEq, Prod.mk.injEq] at H
    obtain ⟨rfl, rfl, rfl⟩ := H
    go_wp2
    go_ret3
    exact ⟨by first | rfl | (simp [errW_none, errW_some] <;> rfl) | (simp [*, errW_none, errW_some] <;> rfl), by repeat (first | (with_reducible first | exact HB.out | apply below_alloc | apply pw_below_drewN | apply below_drew1) | exact HB.out)⟩

/-! ### meter_Nearest: function 57 -/
set_option maxHeartbeats 8000000 in
set_option maxRecDepth 100000 in
theorem meter_Nearest.calls (k : Nat) (a0 : Int) (a1 : (Nat × Nat)) (r1 : Int) (r2 : Nat) (r3 : Nat) (r4 : Int) (w : World) (h : meter_Nearest.f k a0 a1 = some (r1, r2, r3, r4)) :
  Calls Try.prog 57 #[.int .i64 a0, .complex .f64 a1.1 a1.2] w fun e w' => e = .returned (.tuple #[.int .i64 r1, .float .f64 r2, .float .f64 r3, .int .i64 r4]) ∧ Below w.heap.size w w' := by
 have HB := Aside0.mk (Below.refl w.heap.size w)
 have H : ((points_All.f a0).bind fun bt351 => (if bt351.2 = 0 then ((grid_On.f a1.1).bind fun t355 => (if t355 = true then ((grid_On.f a1.2).bind fun t356 => (if t356 = true then ((meter_nearest.f k bt351.1 a1).bind fun bt357 => (some (bt357.1, bt357.2.1, bt357.2.2, 0))) else (some (0, 0, 0, 7)))) else (some (0, 0, 0, 7)))) else (some (0, 0, 0, 1)))) = some (r1, r2, r3, r4) := h
 clear h
 replace H := Option.bind_eq_some_iff.mp H
 obtain ⟨⟨t351, t352⟩, A30, H⟩ := H
 replace H : (if t352 = 0 then ((grid_On.f a1.1).bind fun t355 => (if t355 = true then ((grid_On.f a1.2).bind fun t356 => (if t356 = true then ((meter_nearest.f k t351 a1).bind fun bt357 => (some (bt357.1, bt357.2.1, bt357.2.2, 0))) else (some (0, 0, 0, 7)))) else (some (0, 0, 0, 7)))) else (some (0, 0, 0, 1))) = some (r1, r2, r3, r4) := H
 have A3 := Aside0.mk A30
 clear A30
 by_cases c4 : t352 = 0
 ·rw [if_pos c4] at H
  have c4b0 : (t352 == 0) = true := beq_iff_eq.mpr c4
  have c4b1 : (t352 != 0) = false := bne_eq_false_iff_eq.mpr c4
  clear c4
  replace H := Option.bind_eq_some_iff.mp H
  obtain ⟨t355, A50, H⟩ := H
  replace H : (if t355 = true then ((grid_On.f a1.2).bind fun t356 => (if t356 = true then ((meter_nearest.f k t351 a1).bind fun bt357 => (some (bt357.1, bt357.2.1, bt357.2.2, 0))) else (some (0, 0, 0, 7)))) else (some (0, 0, 0, 7))) = some (r1, r2, r3, r4) := H
  have A5 := Aside0.mk A50
  clear A50
  by_cases c6 : t355 = true
  ·subst c6
   have H1 : ((grid_On.f a1.2).bind fun t356 => (if t356 = true then ((meter_nearest.f k t351 a1).bind fun bt357 => (some (bt357.1, bt357.2.1, bt357.2.2, 0))) else (some (0, 0, 0, 7)))) = some (r1, r2, r3, r4) := by rw [if_pos rfl] at H; exact H
   clear H
   have H := H1
   clear H1
   replace H := Option.bind_eq_some_iff.mp H
   obtain ⟨t356, A70, H⟩ := H
   replace H : (if t356 = true then ((meter_nearest.f k t351 a1).bind fun bt357 => (some (bt357.1, bt357.2.1, bt357.2.2, 0))) else (some (0, 0, 0, 7))) = some (r1, r2, r3, r4) := H
   have A7 := Aside0.mk A70
   clear A70
   by_cases c8 : t356 = true
   ·subst c8
    have H1 : ((meter_nearest.f k t351 a1).bind fun bt357 => (some (bt357.1, bt357.2.1, bt357.2.2, 0))) = some (r1, r2, r3, r4) := by rw [if_pos rfl] at H; exact H
    clear H
    have H := H1
    clear H1
    replace H := Option.bind_eq_some_iff.mp H
    obtain ⟨⟨t357, t358, t359⟩, A90, H⟩ := H
    replace H : (some (t357, t358, t359, 0)) = some (r1, r2, r3, r4) := H
    have A9 := Aside0.mk A90
    clear A90
    simp only [Option.some.injEq, Prod.mk.injEq] at H
    obtain ⟨rfl, rfl, rfl, rfl⟩ := H
    go_enter Try.func57, Try.ntmps57
    go_wp2_with (first | ((with_reducible refine gate_callee (f := 56) rfl ?_); refine goesL_ (some 11) rfl rfl Try.func56 (by kernel_rfl) rfl #[.int .i64 a0] rfl (by (try simp only [List.map_toArray, List.map_cons, List.map_nil]); first | done | rfl | (simp only [List.length_drop, List.length_take]; rfl)) ?_; (with_reducible refine (points_All.calls a0 t351 t352 _ A3.out).mono ?_); rintro e w10 ⟨v353, rfl, ho0, hb⟩; refine ⟨_, rfl, ?_⟩; have n0_ := Aside0.mk (Kd.R_lower ho0 (below_size (by repeat (first | (with_reducible first | exact HB.out | apply below_alloc | apply pw_below_drewN | apply below_drew1) | exact HB.out)))); have n1_ := Aside0.mk (below_step (by repeat (first | (with_reducible first | exact HB.out | apply below_alloc | apply pw_below_drewN | apply below_drew1) | exact HB.out)) hb); clear HB; have HO354 := n0_; have HB := n1_; clear n0_ n1_; (try clear hb); (try clear hb2); (try clear hk); (try clear hi); (try clear ho0)) | ((with_reducible refine gate_callee (f := 106) rfl ?_); refine goesL_ (some 20) rfl rfl Try.func106 (by kernel_rfl) rfl #[.float .f64 a1.1] rfl (by (try simp only [List.map_toArray, List.map_cons, List.map_nil]); first | done | rfl | (simp only [List.length_drop, List.length_take]; rfl)) ?_; (with_reducible refine (grid_On.calls a1.1 true _ A5.out).mono ?_); rintro e w' ⟨rfl, ⟨nd, rfl⟩⟩; refine ⟨_, rfl, ?_⟩) | (go_at_call 106; (with_reducible refine (grid_On.calls a1.2 true _ A7.out).mono ?_); rintro e w' ⟨rfl, ⟨nd, rfl⟩⟩; obtain ⟨Ao11, co11, eo11⟩ := Kd.R_slice HO354.out; subst eo11) | ((with_reducible refine gate_callee (f := 128) rfl ?_); refine goesL_ (some 31) rfl rfl Try.func128 (by kernel_rfl) rfl #[.slice Ao11 t351.length co11, .complex .f64 a1.1 a1.2] rfl (by (try simp only [List.map_toArray, List.map_cons, List.map_nil]); first | done | rfl | (simp only [List.length_drop, List.length_take]; rfl)) ?_; (with_reducible refine (meter_nearest.calls k _ _ t351 a1 t357 t358 t359 _ ?side1 ?side2 A9.out).mono ?_); (case side1 => repeat (first | exact (Kd.R_reads' HO354.out).2.2 | (with_reducible refine Kd.C_alloc ?_ _) | (with_reducible refine Kd.C_drewN ?_ _) | (with_reducible refine Kd.C_drew ?_))); (case side2 => exact (Kd.R_reads' HO354.out).2.1); rintro e w12 ⟨rfl, hb⟩; refine ⟨_, rfl, ?_⟩; have n0_ := Aside0.mk (Kd.R_below (by (with_reducible repeat (first | apply Kd.R_alloc | apply Kd.R_drewN | apply Kd.R_drew)); exact HO354.out) hb); have n1_ := Aside0.mk (below_step (by repeat (first | (with_reducible first | exact HB.out | apply below_alloc | apply pw_below_drewN | apply below_drew1) | exact HB.out)) hb); clear HO354; clear HB; have HO354 := n0_; have HB := n1_; clear n0_ n1_; (try clear hb); (try clear hb2); (try clear hk); (try clear hi)))
    refine bodyPost_ret (results_list (rs := [.tmp 4, .tmp 5, .tmp 6, .tmp 7]) rfl (by simp) (.tmp (.tmp (.tmp (.tmp .nil))))) rfl ?_
    exact ⟨by first | rfl | (simp [errW_none, errW_some] <;> rfl) | (simp [*, errW_none, errW_some] <;> rfl), by repeat (first | (with_reducible first | exact HB.out | apply below_alloc | apply pw_below_drewN | apply below_drew1) | exact HB.out)⟩
   ·replace c8 := Bool.eq_false_iff.mpr c8
    subst c8
    have H1 : (some (0, 0, 0, 7)) = some (r1, r2, r3, r4) := by rw [if_neg (show ¬ (false = true) by decide)] at H; exact H
    clear H
    have H := H1
    clear H1
    simp only [Option.some.injEq, Prod.mk.injEq] at H
    obtain ⟨rfl, rfl, rfl, rfl⟩ := H
    go_enter Try.func57, Try.ntmps57
    go_wp2_with (first | ((with_reducible refine gate_callee (f := 56) rfl ?_); refine goesL_ (some 11) rfl rfl Try.func56 (by kernel_rfl) rfl #[.int .i64 a0] rfl (by (try simp only [List.map_toArray, List.map_cons, List.map_nil]); first | done | rfl | (simp only [List.length_drop, List.length_take]; rfl)) ?_; (with_reducible refine (points_All.calls a0 t351 t352 _ A3.out).mono ?_); rintro e w13 ⟨v353, rfl, ho0, hb⟩; refine ⟨_, rfl, ?_⟩; have n0_ := Aside0.mk (Kd.R_lower ho0 (below_size (by repeat (first | (with_reducible first | exact HB.out | apply below_alloc | apply pw_below_drewN | apply below_drew1) | exact HB.out)))); have n1_ := Aside0.mk (below_step (by repeat (first | (with_reducible first | exact HB.out | apply below_alloc | apply pw_below_drewN | apply below_drew1) | exact HB.out)) hb); clear HB; have HO354 := n0_; have HB := n1_; clear n0_ n1_; (try clear hb); (try clear hb2); (try clear hk); (try clear hi); (try clear ho0)) | ((with_reducible refine gate_callee (f := 106) rfl ?_); refine goesL_ (some 20) rfl rfl Try.func106 (by kernel_rfl) rfl #[.float .f64 a1.1] rfl (by (try simp only [List.map_toArray, List.map_cons, List.map_nil]); first | done | rfl | (simp only [List.length_drop, List.length_take]; rfl)) ?_; (with_reducible refine (grid_On.calls a1.1 true _ A5.out).mono ?_); rintro e w' ⟨rfl, ⟨nd, rfl⟩⟩; refine ⟨_, rfl, ?_⟩) | (go_at_call 106; (with_reducible refine (grid_On.calls a1.2 false _ A7.out).mono ?_); rintro e w' ⟨rfl, ⟨nd, rfl⟩⟩))
    refine bodyPost_ret (results_list (rs := [.tmp 4, .tmp 5, .tmp 6, .tmp 7]) rfl (by simp) (.tmp (.tmp (.tmp (.tmp .nil))))) rfl ?_
    exact ⟨by first | rfl | (simp [errW_none, errW_some] <;> rfl) | (simp [*, errW_none, errW_some] <;> rfl), by repeat (first | (with_reducible first | exact HB.out | apply below_alloc | apply pw_below_drewN | apply below_drew1) | exact HB.out)⟩
  ·replace c6 := Bool.eq_false_iff.mpr c6
   subst c6
   have H1 : (some (0, 0, 0, 7)) = some (r1, r2, r3, r4) := by rw [if_neg (show ¬ (false = true) by decide)] at H; exact H
   clear H
   have H := H1
   clear H1
   simp only [Option.some.injEq, Prod.mk.injEq] at H
   obtain ⟨rfl, rfl, rfl, rfl⟩ := H
   go_enter Try.func57, Try.ntmps57
   go_wp2_with (first | ((with_reducible refine gate_callee (f := 56) rfl ?_); refine goesL_ (some 11) rfl rfl Try.func56 (by kernel_rfl) rfl #[.int .i64 a0] rfl (by (try simp only [List.map_toArray, List.map_cons, List.map_nil]); first | done | rfl | (simp only [List.length_drop, List.length_take]; rfl)) ?_; (with_reducible refine (points_All.calls a0 t351 t352 _ A3.out).mono ?_); rintro e w14 ⟨v353, rfl, ho0, hb⟩; refine ⟨_, rfl, ?_⟩; have n0_ := Aside0.mk (Kd.R_lower ho0 (below_size (by repeat (first | (with_reducible first | exact HB.out | apply below_alloc | apply pw_below_drewN | apply below_drew1) | exact HB.out)))); have n1_ := Aside0.mk (below_step (by repeat (first | (with_reducible first | exact HB.out | apply below_alloc | apply pw_below_drewN | apply below_drew1) | exact HB.out)) hb); clear HB; have HO354 := n0_; have HB := n1_; clear n0_ n1_; (try clear hb); (try clear hb2); (try clear hk); (try clear hi); (try clear ho0)) | ((with_reducible refine gate_callee (f := 106) rfl ?_); refine goesL_ (some 20) rfl rfl Try.func106 (by kernel_rfl) rfl #[.float .f64 a1.1] rfl (by (try simp only [List.map_toArray, List.map_cons, List.map_nil]); first | done | rfl | (simp only [List.length_drop, List.length_take]; rfl)) ?_; (with_reducible refine (grid_On.calls a1.1 false _ A5.out).mono ?_); rintro e w' ⟨rfl, ⟨nd, rfl⟩⟩; refine ⟨_, rfl, ?_⟩))
   refine bodyPost_ret (results_list (rs := [.tmp 4, .tmp 5, .tmp 6, .tmp 7]) rfl (by simp) (.tmp (.tmp (.tmp (.tmp .nil))))) rfl ?_
   exact ⟨by first | rfl | (simp [errW_none, errW_some] <;> rfl) | (simp [*, errW_none, errW_some] <;> rfl), by repeat (first | (with_reducible first | exact HB.out | apply below_alloc | apply pw_below_drewN | apply below_drew1) | exact HB.out)⟩
 ·rw [if_neg c4] at H
  have c4b0 : (t352 == 0) = false := beq_eq_false_iff_ne.mpr c4
  have c4b1 : (t352 != 0) = true := bne_iff_ne.mpr c4
  simp only [Option.some.injEq, Prod.mk.injEq] at H
  obtain ⟨rfl, rfl, rfl, rfl⟩ := H
  go_enter Try.func57, Try.ntmps57
  go_wp2_with (first | ((with_reducible refine gate_callee (f := 56) rfl ?_); refine goesL_ (some 11) rfl rfl Try.func56 (by kernel_rfl) rfl #[.int .i64 a0] rfl (by (try simp only [List.map_toArray, List.map_cons, List.map_nil]); first | done | rfl | (simp only [List.length_drop, List.length_take]; rfl)) ?_; (with_reducible refine (points_All.calls a0 t351 t352 _ A3.out).mono ?_); rintro e w15 ⟨v353, rfl, ho0, hb⟩; refine ⟨_, rfl, ?_⟩; have n0_ := Aside0.mk (Kd.R_lower ho0 (below_size (by repeat (first | (with_reducible first | exact HB.out | apply below_alloc | apply pw_below_drewN | apply below_drew1) | exact HB.out)))); have n1_ := Aside0.mk (below_step (by repeat (first | (with_reducible first | exact HB.out | apply below_alloc | apply pw_below_drewN | apply below_drew1) | exact HB.out)) hb); clear HB; have HO354 := n0_; have HB := n1_; clear n0_ n1_; (try clear hb); (try clear hb2); (try clear hk); (try clear hi); (try clear ho0)))
  refine bodyPost_ret (results_list (rs := [.tmp 4, .tmp 5, .tmp 6, .tmp 7]) rfl (by simp) (.tmp (.tmp (.tmp (.tmp .nil))))) rfl ?_
  exact ⟨by first | rfl | (simp [errW_none, errW_some] <;> rfl) | (simp [*, errW_none, errW_some] <;> rfl), by repeat (first | (with_reducible first | exact HB.out | apply below_alloc | apply pw_below_drewN | apply below_drew1) | exact HB.out)⟩

end Go.Proofs.Ythfcafllcgjepaa.Q
