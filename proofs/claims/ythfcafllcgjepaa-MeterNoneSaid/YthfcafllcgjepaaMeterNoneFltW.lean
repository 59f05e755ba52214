import Derived.Test.YthfcafllcgjepaaMeterNoneWMore
import Derived.Test.YthfcafllcgjepaaMeterNoneWFoot
import Derived.Laws.FloatArith
import Derived.Laws.ComplexArith
import Derived.Laws.Externs
/- Floats and complex numbers, by their bits: kinds of elements, and what their operations come to. -/
namespace Go.Proofs.YthfcafllcgjepaaW.PrintWords
open Go.RowKit
set_option linter.unusedVariables false
namespace Kd
/-- A complex number by the bits of its parts. -/
def encC (z : Nat × Nat) : Value := .complex .f64 z.1 z.2
def float : Kd Nat := scalar (Value.float .f64) (fun _ => rfl)
def cplx : Kd (Nat × Nat) := scalar encC (fun _ => rfl)
theorem heap_float : Heap Kd.float := ⟨fun _ h => h⟩
theorem heap_cplx : Heap Kd.cplx := ⟨fun _ h => h⟩
section
variable {w W : World} {A : Option Addr} {n : Nat}
theorem at_float {xs : List Nat} (h : Kd.float.C w A n xs) (i : Int) (h0 : 0 ≤ i) (h1 : i < n) : ∃ ad, A = some ad ∧ w.cell? (ad.add i.toNat) = some (.float .f64 (rdOf 0 xs i)) :=
  ReadsOf.at_ (reads_of_C (enc := Value.float .f64) (d := (0 : Nat)) (h1 := fun _ => rfl) h) i h0 h1
theorem at_cplx {xs : List (Nat × Nat)} (h : Kd.cplx.C w A n xs) (i : Int) (h0 : 0 ≤ i) (h1 : i < n) : ∃ ad, A = some ad ∧ w.cell? (ad.add i.toNat) = some (.complex .f64 (rdOf (0, 0) xs i).1 (rdOf (0, 0) xs i).2) :=
  ReadsOf.at_ (reads_of_C (enc := encC) (d := ((0, 0) : Nat × Nat)) (h1 := fun _ => rfl) h) i h0 h1
end
end Kd
theorem unary_neg_float (k : FloatKind) (b : Nat) : Op.unary .neg (.float k b) = pure (.float k (Op.negFloat k b)) := rfl
theorem unary_neg_complex (k : FloatKind) (a b : Nat) : Op.unary .neg (.complex k a b) = pure (.complex k (Op.negFloat k a) (Op.negFloat k b)) := rfl
theorem run_store_float {P : Program} (w : World) (a : Addr) (m : Mode) (k : FloatKind) (x : Nat) : (store a (.float k x) m).run P w = stored P w a (.float k x) m := run_store P w a _ m rfl
theorem run_store_complex {P : Program} (w : World) (a : Addr) (m : Mode) (k : FloatKind) (x y : Nat) : (store a (.complex k x y) m).run P w = stored P w a (.complex k x y) m := run_store P w a _ m rfl
/-! functions of package math without a body -/
/-- A float made whole, one way; none: it is no number. -/
def integF (way : Ieee.Toward) (x : Nat) : Option Nat :=
  match FloatKind.f64.decode x with
  | .nan _ _ => none
  | d => some (FloatKind.f64.encode (d.integral way))
/-- The greater (or the lesser) of two floats. -/
def pickF (neg : Bool) (win : Ordering) (x y : Nat) : Nat :=
  let a := FloatKind.f64.decode x
  let b := FloatKind.f64.decode y
  if a == .infinity neg || b == .infinity neg then FloatKind.f64.encode (.infinity neg)
  else if a.isNaN || b.isNaN then 0x7FF8000000000001
  else if a.isZero && b.isZero then (if a.neg == neg then x else y)
  else if a.order b == some win then x else y
section
variable {P : Program} {f : FuncId} {fn : Func} (hf : P.funcs[f]? = some fn) (hname : (fn.name == "runtime.NumGoroutine") = false) (hb : fn.body.isNone = true) (hn : Extern.findNext fn = none)
include hf hname hb hn
theorem ext_frombits (he : Extern.find fn = some Extern.MathFloatBits.float64frombits) (n : Int) (w : World) : (callFunc f #[.int .u64 n]).run P w = .ok (.value (.float .f64 n.toNat)) w := by
  rw [run_callFunc_extern hf hname hb hn he]; rfl
theorem ext_bits (he : Extern.find fn = some Extern.MathFloatBits.float64bits) (x : Nat) (w : World) : (callFunc f #[.float .f64 x]).run P w = .ok (.value (.int .u64 x)) w := by
  rw [run_callFunc_extern hf hname hb hn he]; rfl
theorem ext_integ {name : String} {way : Ieee.Toward} (he : Extern.find fn = some (Extern.MathFloor.toIntegral name way)) (x r : Nat) (h : integF way x = some r) (w : World) : (callFunc f #[.float .f64 x]).run P w = .ok (.value (.float .f64 r)) w := by
  rw [run_callFunc_extern hf hname hb hn he]
  have e1 : Extern.MathFloor.toIntegral name way #[.float .f64 x] = (match FloatKind.f64.decode x with
    | .nan s t =>
      if FloatKind.f64.format.quiet t = t then pure (.float .f64 x) else do
      let kept ← choose (.extern "math.Floor,Ceil,Trunc,RoundToEven.signallingNaN kept" 2)
      pure (.float .f64 (if kept == 1 then x else FloatKind.f64.encode (.nan s (FloatKind.f64.format.quiet t))))
    | d => pure (.float .f64 (FloatKind.f64.encode (d.integral way))) : Sem Value) := rfl
  rw [e1]
  unfold integF at h
  cases hd : FloatKind.f64.decode x with
  | nan s t => rw [hd] at h; cases h
  | number s m e => rw [hd] at h; cases h; rfl
  | infinity s => rw [hd] at h; cases h; rfl
theorem ext_pick {name : String} {neg : Bool} {win : Ordering} (he : Extern.find fn = some (Extern.MathDim.pick name neg win)) (x y : Nat) (w : World) : (callFunc f #[.float .f64 x, .float .f64 y]).run P w = .ok (.value (.float .f64 (pickF neg win x y))) w := by
  rw [run_callFunc_extern hf hname hb hn he]; rfl
end
end Go.Proofs.YthfcafllcgjepaaW.PrintWords
