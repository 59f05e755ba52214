import Derived.Test.YthfcafllcgjepaaFeedbackReachK0
-- Printed by myprint.py (ours) over the kit's printer, out of the translation.
namespace Go.Proofs.Ythfcafllcgjepaa.Q
open Go.RowKit Go.Proofs.YthfcafllcgjepaaW.PrintWords Go.Proofs.YthfcafllcgjepaaW.PrintLast Go.Proofs.YthfcafllcgjepaaW.PrintMore
attribute [local go_sem] ArrW.ptrOf_slice unary_neg_float unary_neg_complex run_store_float run_store_complex max2_int min2_int max_two min_two max_three min_three max_four min_four   -- for this text's walks alone
set_option linter.unusedVariables false
set_option linter.unusedSimpArgs false
theorem run_equalIn_flt {P : Program} (w : World) (d : Nat) (t : TypeId) (a b : Nat) (h : P.underlying t = some (.float .f64)) : (Op.equalIn (d + 1) t (.float .f64 a) (.float .f64 b)).run P w = .ok (FloatKind.f64.format.order a b == some .eq) w := by
  simp [Op.equalIn, run_underlying h, Result.andThen, Op.floatEq]
theorem run_equalIn_cpl {P : Program} (w : World) (d : Nat) (t : TypeId) (a b c e : Nat) (h : P.underlying t = some (.complex .f64)) : (Op.equalIn (d + 1) t (.complex .f64 a b) (.complex .f64 c e)).run P w = .ok ((FloatKind.f64.format.order a c == some .eq) && (FloatKind.f64.format.order b e == some .eq)) w := by
  simp [Op.equalIn, run_underlying h, Result.andThen, Op.floatEq]
attribute [local go_sem] run_equalIn_flt run_equalIn_cpl
theorem eqA83 (d : Nat) (w : World) (x0 y0 : Int) (x1a x1b y1a y1b : Nat) (x2 y2 : Bool) :
    (Op.equalIn (d + 2) 83 (.agg #[.int .i64 x0, .complex .f64 x1a x1b, .bool x2]) (.agg #[.int .i64 y0, .complex .f64 y1a y1b, .bool y2])).run Try.prog w = .ok (x0 == y0 && (((FloatKind.f64.format.order x1a y1a == some .eq) && (FloatKind.f64.format.order x1b y1b == some .eq)) && (x2 == y2))) w := by
  refine eqA_of Try.underlying83 (by kernel_rfl) ?_
  refine eqf_cons (by rfl) (by go_simp; rfl) (by go_simp; rfl) (by go_simp) ?_
  refine eqf_cons (by rfl) (by go_simp; rfl) (by go_simp; rfl) (by go_simp) ?_
  exact eqf_last (by rfl) (by go_simp; rfl) (by go_simp; rfl) (by go_simp)
end Go.Proofs.Ythfcafllcgjepaa.Q
