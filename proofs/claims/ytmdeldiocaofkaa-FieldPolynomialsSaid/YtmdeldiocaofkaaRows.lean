/-
  No cell of these rows narrows 'for every input' (looked for: loops, veiled, ifaces, maps, wideKeys, modest, calm, conditions, laid).
  DERIVED. THE GIVEN ROWS OF THIS SEAT. 12 by the template 'for every input the law returns true; each argument reads behind the call as it read before'; 0 by the template 'total and deterministic' (their statements: YtmdeldiocaofkaaTotals.lean).
  GIVEN WITH THE SEED: the statements are not yours to turn. If you find one false, say at which input.
  Laid BY PROGRAM, IN A SANDBOX (cutbox-rows.mjs): the forced cells as the released guide's own fill.sh prints them over the translation d75503425987810a… (all of the seat's roots in one cut). By AI agents, Wed Nov 11 2026. No macro, syntax, notation, axiom, sorry.
-/
import Derived.Test.YtmdeldiocaofkaaChecked
import GoSem.Claim
import GoSem.ClaimJoined
import GoSem.ClaimMapViews
import Derived.JoinedTies
import Derived.KernelRfl
namespace Go.Proofs.Ytmdeldiocaofkaa
/- THE CELL 'sum', in the pinned program and in every row, IS THE sha256 OF THE DUMP (.gsa) THAT YtmdeldiocaofkaaProg.lean LOADS. Nothing in Lean hashes anything: it is a label: what it is worth is what the hold of that sum in a sandbox is worth. -/
noncomputable def Try.pinned : Pinned := { name := "ytmdeldiocaofkaa", sum := "d75503425987810a392727207ab0bd63de891f554e9da7ba90e87749723c69df", checked := Try.checked }
namespace Rows
def none {H : Type} : Left H := { results := [], args := [] }

/-- 'foghornlaw19.ReedChecks': WHATEVER THE INPUT: true; the input reads as it did. -/
def reedChecksSpec : ChangeSpec := { name := "reedChecks", fn := fun _ => fun
  | [d1, d2] => { results := [.lit (.bool true)], args := [d1, d2] }
  | _ => none }
def reedChecksRow : OpenClaim := { program := "ytmdeldiocaofkaa", sum := "d75503425987810a392727207ab0bd63de891f554e9da7ba90e87749723c69df", func := "foghorn/foghornlaw19.ReedChecks", spec := "reedChecks", apart := false }
def ReedChecksSaid : Prop := reedChecksRow.holds Try.pinned (OpenSpec.ofChange reedChecksSpec)

/-- ITS FALSE NEIGHBOUR: 'it returns false'. Refute it at one input. -/
def reedChecksWrong : ChangeSpec := { name := "reedChecks", fn := fun _ => fun
  | [d1, d2] => { results := [.lit (.bool false)], args := [d1, d2] }
  | _ => none }
def ReedChecksWrongFalsely : Prop := reedChecksRow.holds Try.pinned (OpenSpec.ofChange reedChecksWrong)

/-- 'foghornlaw18.FieldNumbers': WHATEVER THE INPUT: true; the input reads as it did. -/
def fieldNumbersSpec : ChangeSpec := { name := "fieldNumbers", fn := fun _ => fun
  | [d1, d2, d3] => { results := [.lit (.bool true)], args := [d1, d2, d3] }
  | _ => none }
def fieldNumbersRow : OpenClaim := { program := "ytmdeldiocaofkaa", sum := "d75503425987810a392727207ab0bd63de891f554e9da7ba90e87749723c69df", func := "foghorn/foghornlaw18.FieldNumbers", spec := "fieldNumbers", unfollowed := true, recurses := true, apart := false }
def FieldNumbersSaid : Prop := fieldNumbersRow.holds Try.pinned (OpenSpec.ofChange fieldNumbersSpec)

/-- ITS FALSE NEIGHBOUR: 'it returns false'. Refute it at one input. -/
def fieldNumbersWrong : ChangeSpec := { name := "fieldNumbers", fn := fun _ => fun
  | [d1, d2, d3] => { results := [.lit (.bool false)], args := [d1, d2, d3] }
  | _ => none }
def FieldNumbersWrongFalsely : Prop := fieldNumbersRow.holds Try.pinned (OpenSpec.ofChange fieldNumbersWrong)

/-- 'foghornlaw18.FieldLaws': WHATEVER THE INPUT: true; the input reads as it did. -/
def fieldLawsSpec : ChangeSpec := { name := "fieldLaws", fn := fun _ => fun
  | [d] => { results := [.lit (.bool true)], args := [d] }
  | _ => none }
def fieldLawsRow : OpenClaim := { program := "ytmdeldiocaofkaa", sum := "d75503425987810a392727207ab0bd63de891f554e9da7ba90e87749723c69df", func := "foghorn/foghornlaw18.FieldLaws", spec := "fieldLaws", unfollowed := true, recurses := true, apart := false }
def FieldLawsSaid : Prop := fieldLawsRow.holds Try.pinned (OpenSpec.ofChange fieldLawsSpec)

/-- ITS FALSE NEIGHBOUR: 'it returns false'. Refute it at one input. -/
def fieldLawsWrong : ChangeSpec := { name := "fieldLaws", fn := fun _ => fun
  | [d] => { results := [.lit (.bool false)], args := [d] }
  | _ => none }
def FieldLawsWrongFalsely : Prop := fieldLawsRow.holds Try.pinned (OpenSpec.ofChange fieldLawsWrong)

/-- 'foghornlaw18.FieldThrough': WHATEVER THE INPUT: true; the input reads as it did. -/
def fieldThroughSpec : ChangeSpec := { name := "fieldThrough", fn := fun _ => fun
  | [d1, d2] => { results := [.lit (.bool true)], args := [d1, d2] }
  | _ => none }
def fieldThroughRow : OpenClaim := { program := "ytmdeldiocaofkaa", sum := "d75503425987810a392727207ab0bd63de891f554e9da7ba90e87749723c69df", func := "foghorn/foghornlaw18.FieldThrough", spec := "fieldThrough", unfollowed := true, recurses := true, apart := false }
def FieldThroughSaid : Prop := fieldThroughRow.holds Try.pinned (OpenSpec.ofChange fieldThroughSpec)

/-- ITS FALSE NEIGHBOUR: 'it returns false'. Refute it at one input. -/
def fieldThroughWrong : ChangeSpec := { name := "fieldThrough", fn := fun _ => fun
  | [d1, d2] => { results := [.lit (.bool false)], args := [d1, d2] }
  | _ => none }
def FieldThroughWrongFalsely : Prop := fieldThroughRow.holds Try.pinned (OpenSpec.ofChange fieldThroughWrong)

/-- 'foghornlaw19.ReedLinear': WHATEVER THE INPUT: true; the input reads as it did. -/
def reedLinearSpec : ChangeSpec := { name := "reedLinear", fn := fun _ => fun
  | [d1, d2, d3, d4] => { results := [.lit (.bool true)], args := [d1, d2, d3, d4] }
  | _ => none }
def reedLinearRow : OpenClaim := { program := "ytmdeldiocaofkaa", sum := "d75503425987810a392727207ab0bd63de891f554e9da7ba90e87749723c69df", func := "foghorn/foghornlaw19.ReedLinear", spec := "reedLinear", apart := false }
def ReedLinearSaid : Prop := reedLinearRow.holds Try.pinned (OpenSpec.ofChange reedLinearSpec)

/-- ITS FALSE NEIGHBOUR: 'it returns false'. Refute it at one input. -/
def reedLinearWrong : ChangeSpec := { name := "reedLinear", fn := fun _ => fun
  | [d1, d2, d3, d4] => { results := [.lit (.bool false)], args := [d1, d2, d3, d4] }
  | _ => none }
def ReedLinearWrongFalsely : Prop := reedLinearRow.holds Try.pinned (OpenSpec.ofChange reedLinearWrong)

/-- 'foghornlaw19.ReedOne': WHATEVER THE INPUT: true; the input reads as it did. -/
def reedOneSpec : ChangeSpec := { name := "reedOne", fn := fun _ => fun
  | [d1, d2] => { results := [.lit (.bool true)], args := [d1, d2] }
  | _ => none }
def reedOneRow : OpenClaim := { program := "ytmdeldiocaofkaa", sum := "d75503425987810a392727207ab0bd63de891f554e9da7ba90e87749723c69df", func := "foghorn/foghornlaw19.ReedOne", spec := "reedOne", apart := false }
def ReedOneSaid : Prop := reedOneRow.holds Try.pinned (OpenSpec.ofChange reedOneSpec)

/-- ITS FALSE NEIGHBOUR: 'it returns false'. Refute it at one input. -/
def reedOneWrong : ChangeSpec := { name := "reedOne", fn := fun _ => fun
  | [d1, d2] => { results := [.lit (.bool false)], args := [d1, d2] }
  | _ => none }
def ReedOneWrongFalsely : Prop := reedOneRow.holds Try.pinned (OpenSpec.ofChange reedOneWrong)

/-- 'foghornlaw19.ReedApart': WHATEVER THE INPUT: true; the input reads as it did. -/
def reedApartSpec : ChangeSpec := { name := "reedApart", fn := fun _ => fun
  | [d1, d2, d3, d4] => { results := [.lit (.bool true)], args := [d1, d2, d3, d4] }
  | _ => none }
def reedApartRow : OpenClaim := { program := "ytmdeldiocaofkaa", sum := "d75503425987810a392727207ab0bd63de891f554e9da7ba90e87749723c69df", func := "foghorn/foghornlaw19.ReedApart", spec := "reedApart", apart := false }
def ReedApartSaid : Prop := reedApartRow.holds Try.pinned (OpenSpec.ofChange reedApartSpec)

/-- ITS FALSE NEIGHBOUR: 'it returns false'. Refute it at one input. -/
def reedApartWrong : ChangeSpec := { name := "reedApart", fn := fun _ => fun
  | [d1, d2, d3, d4] => { results := [.lit (.bool false)], args := [d1, d2, d3, d4] }
  | _ => none }
def ReedApartWrongFalsely : Prop := reedApartRow.holds Try.pinned (OpenSpec.ofChange reedApartWrong)

/-- 'foghornlaw19.ReedWords': WHATEVER THE INPUT: true; the input reads as it did. -/
def reedWordsSpec : ChangeSpec := { name := "reedWords", fn := fun _ => fun
  | [d1, d2, d3, d4] => { results := [.lit (.bool true)], args := [d1, d2, d3, d4] }
  | _ => none }
def reedWordsRow : OpenClaim := { program := "ytmdeldiocaofkaa", sum := "d75503425987810a392727207ab0bd63de891f554e9da7ba90e87749723c69df", func := "foghorn/foghornlaw19.ReedWords", spec := "reedWords", apart := false }
def ReedWordsSaid : Prop := reedWordsRow.holds Try.pinned (OpenSpec.ofChange reedWordsSpec)

/-- ITS FALSE NEIGHBOUR: 'it returns false'. Refute it at one input. -/
def reedWordsWrong : ChangeSpec := { name := "reedWords", fn := fun _ => fun
  | [d1, d2, d3, d4] => { results := [.lit (.bool false)], args := [d1, d2, d3, d4] }
  | _ => none }
def ReedWordsWrongFalsely : Prop := reedWordsRow.holds Try.pinned (OpenSpec.ofChange reedWordsWrong)

/-- 'foghornlaw18.FieldRings': WHATEVER THE INPUT: true; the input reads as it did. -/
def fieldRingsSpec : ChangeSpec := { name := "fieldRings", fn := fun _ => fun
  | [d] => { results := [.lit (.bool true)], args := [d] }
  | _ => none }
def fieldRingsRow : OpenClaim := { program := "ytmdeldiocaofkaa", sum := "d75503425987810a392727207ab0bd63de891f554e9da7ba90e87749723c69df", func := "foghorn/foghornlaw18.FieldRings", spec := "fieldRings", unfollowed := true, recurses := true, apart := false }
def FieldRingsSaid : Prop := fieldRingsRow.holds Try.pinned (OpenSpec.ofChange fieldRingsSpec)

/-- ITS FALSE NEIGHBOUR: 'it returns false'. Refute it at one input. -/
def fieldRingsWrong : ChangeSpec := { name := "fieldRings", fn := fun _ => fun
  | [d] => { results := [.lit (.bool false)], args := [d] }
  | _ => none }
def FieldRingsWrongFalsely : Prop := fieldRingsRow.holds Try.pinned (OpenSpec.ofChange fieldRingsWrong)

/-- 'foghornlaw18.FieldRoots': WHATEVER THE INPUT: true; the input reads as it did. -/
def fieldRootsSpec : ChangeSpec := { name := "fieldRoots", fn := fun _ => fun
  | [d1, d2, d3] => { results := [.lit (.bool true)], args := [d1, d2, d3] }
  | _ => none }
def fieldRootsRow : OpenClaim := { program := "ytmdeldiocaofkaa", sum := "d75503425987810a392727207ab0bd63de891f554e9da7ba90e87749723c69df", func := "foghorn/foghornlaw18.FieldRoots", spec := "fieldRoots", unfollowed := true, recurses := true, apart := false }
def FieldRootsSaid : Prop := fieldRootsRow.holds Try.pinned (OpenSpec.ofChange fieldRootsSpec)

/-- ITS FALSE NEIGHBOUR: 'it returns false'. Refute it at one input. -/
def fieldRootsWrong : ChangeSpec := { name := "fieldRoots", fn := fun _ => fun
  | [d1, d2, d3] => { results := [.lit (.bool false)], args := [d1, d2, d3] }
  | _ => none }
def FieldRootsWrongFalsely : Prop := fieldRootsRow.holds Try.pinned (OpenSpec.ofChange fieldRootsWrong)

/-- 'foghornlaw18.FieldPolynomials': WHATEVER THE INPUT: true; the input reads as it did. -/
def fieldPolynomialsSpec : ChangeSpec := { name := "fieldPolynomials", fn := fun _ => fun
  | [d1, d2, d3] => { results := [.lit (.bool true)], args := [d1, d2, d3] }
  | _ => none }
def fieldPolynomialsRow : OpenClaim := { program := "ytmdeldiocaofkaa", sum := "d75503425987810a392727207ab0bd63de891f554e9da7ba90e87749723c69df", func := "foghorn/foghornlaw18.FieldPolynomials", spec := "fieldPolynomials", unfollowed := true, recurses := true, apart := false }
def FieldPolynomialsSaid : Prop := fieldPolynomialsRow.holds Try.pinned (OpenSpec.ofChange fieldPolynomialsSpec)

/-- ITS FALSE NEIGHBOUR: 'it returns false'. Refute it at one input. -/
def fieldPolynomialsWrong : ChangeSpec := { name := "fieldPolynomials", fn := fun _ => fun
  | [d1, d2, d3] => { results := [.lit (.bool false)], args := [d1, d2, d3] }
  | _ => none }
def FieldPolynomialsWrongFalsely : Prop := fieldPolynomialsRow.holds Try.pinned (OpenSpec.ofChange fieldPolynomialsWrong)

/-- 'foghornlaw19.ReedNames': WHATEVER THE INPUT: true; the input reads as it did. -/
def reedNamesSpec : ChangeSpec := { name := "reedNames", fn := fun _ => fun
  | [] => { results := [.lit (.bool true)], args := [] }
  | _ => none }
def reedNamesRow : OpenClaim := { program := "ytmdeldiocaofkaa", sum := "d75503425987810a392727207ab0bd63de891f554e9da7ba90e87749723c69df", func := "foghorn/foghornlaw19.ReedNames", spec := "reedNames", inPlace := ["internal/abi.NoEscape"], unfollowed := true, recurses := true, apart := false }
def ReedNamesSaid : Prop := reedNamesRow.holds Try.pinned (OpenSpec.ofChange reedNamesSpec)

/-- ITS FALSE NEIGHBOUR: 'it returns false'. Refute it at one input. -/
def reedNamesWrong : ChangeSpec := { name := "reedNames", fn := fun _ => fun
  | [] => { results := [.lit (.bool false)], args := [] }
  | _ => none }
def ReedNamesWrongFalsely : Prop := reedNamesRow.holds Try.pinned (OpenSpec.ofChange reedNamesWrong)

/- THE SECOND FORM. 'bulk': how many values and letters a reading holds, each counted each time it is reached (what is shared counts as often as it is met; a slice's spare places count too). A statement '..UptoSaid' is the law's where the arguments, and the package variables that the reading takes, are together of bulk at most 1048576: NARROWER than '..Said'. Prove '..Said' where nothing that the law and all that it calls make is longer than what came in: it says more and counts as full. Else prove '..UptoSaid'. A law counts once. -/
mutual
def uptoBulk {H : Type} : DataW H → Nat
  | .lit (.string bytes) => bytes.length + 1
  | .lit _ => 1
  | .nil => 1
  | .ptr d => uptoBulk d + 1
  | .slice elems spare => uptoBulkAll elems + uptoBulkAll spare + 1
  | .agg parts => uptoBulkAll parts + 1
  | .iface _ d => uptoBulk d + 1
  | .map entries => uptoBulkEntries entries + 1
  | .held _ => 1
def uptoBulkAll {H : Type} : List (DataW H) → Nat
  | [] => 0
  | d :: r => uptoBulk d + uptoBulkAll r
def uptoBulkEntries {H : Type} : List (Lit × DataW H) → Nat
  | [] => 0
  | x :: r => uptoBulkEntry x + uptoBulkEntries r
def uptoBulkEntry {H : Type} : Lit × DataW H → Nat
  | (.string bytes, d) => bytes.length + uptoBulk d + 1
  | (_, d) => uptoBulk d + 1
 end
def uptoSmall : (H : Type) → List (DataW H) → Bool := fun _ ds => decide (uptoBulkAll ds ≤ 1048576)
def OpenSpec.upto (s : _root_.Go.ChangeSpec) : _root_.Go.OpenSpec := { _root_.Go.OpenSpec.ofChange s with cond := some uptoSmall }

/-- 'foghornlaw19.ReedChecks', WHERE WHAT IT READS IS OF BULK AT MOST 1048576: true; the input reads as it did. -/
def reedChecksUptoRow : OpenClaim := { program := "ytmdeldiocaofkaa", sum := "d75503425987810a392727207ab0bd63de891f554e9da7ba90e87749723c69df", func := "foghorn/foghornlaw19.ReedChecks", spec := "reedChecks", apart := false, narrowed := true }
def ReedChecksUptoSaid : Prop := reedChecksUptoRow.holds Try.pinned (OpenSpec.upto reedChecksSpec)

/-- 'foghornlaw18.FieldNumbers', WHERE WHAT IT READS IS OF BULK AT MOST 1048576: true; the input reads as it did. -/
def fieldNumbersUptoRow : OpenClaim := { program := "ytmdeldiocaofkaa", sum := "d75503425987810a392727207ab0bd63de891f554e9da7ba90e87749723c69df", func := "foghorn/foghornlaw18.FieldNumbers", spec := "fieldNumbers", unfollowed := true, recurses := true, apart := false, narrowed := true }
def FieldNumbersUptoSaid : Prop := fieldNumbersUptoRow.holds Try.pinned (OpenSpec.upto fieldNumbersSpec)

/-- 'foghornlaw18.FieldLaws', WHERE WHAT IT READS IS OF BULK AT MOST 1048576: true; the input reads as it did. -/
def fieldLawsUptoRow : OpenClaim := { program := "ytmdeldiocaofkaa", sum := "d75503425987810a392727207ab0bd63de891f554e9da7ba90e87749723c69df", func := "foghorn/foghornlaw18.FieldLaws", spec := "fieldLaws", unfollowed := true, recurses := true, apart := false, narrowed := true }
def FieldLawsUptoSaid : Prop := fieldLawsUptoRow.holds Try.pinned (OpenSpec.upto fieldLawsSpec)

/-- 'foghornlaw18.FieldThrough', WHERE WHAT IT READS IS OF BULK AT MOST 1048576: true; the input reads as it did. -/
def fieldThroughUptoRow : OpenClaim := { program := "ytmdeldiocaofkaa", sum := "d75503425987810a392727207ab0bd63de891f554e9da7ba90e87749723c69df", func := "foghorn/foghornlaw18.FieldThrough", spec := "fieldThrough", unfollowed := true, recurses := true, apart := false, narrowed := true }
def FieldThroughUptoSaid : Prop := fieldThroughUptoRow.holds Try.pinned (OpenSpec.upto fieldThroughSpec)

/-- 'foghornlaw19.ReedLinear', WHERE WHAT IT READS IS OF BULK AT MOST 1048576: true; the input reads as it did. -/
def reedLinearUptoRow : OpenClaim := { program := "ytmdeldiocaofkaa", sum := "d75503425987810a392727207ab0bd63de891f554e9da7ba90e87749723c69df", func := "foghorn/foghornlaw19.ReedLinear", spec := "reedLinear", apart := false, narrowed := true }
def ReedLinearUptoSaid : Prop := reedLinearUptoRow.holds Try.pinned (OpenSpec.upto reedLinearSpec)

/-- 'foghornlaw19.ReedOne', WHERE WHAT IT READS IS OF BULK AT MOST 1048576: true; the input reads as it did. -/
def reedOneUptoRow : OpenClaim := { program := "ytmdeldiocaofkaa", sum := "d75503425987810a392727207ab0bd63de891f554e9da7ba90e87749723c69df", func := "foghorn/foghornlaw19.ReedOne", spec := "reedOne", apart := false, narrowed := true }
def ReedOneUptoSaid : Prop := reedOneUptoRow.holds Try.pinned (OpenSpec.upto reedOneSpec)

/-- 'foghornlaw19.ReedApart', WHERE WHAT IT READS IS OF BULK AT MOST 1048576: true; the input reads as it did. -/
def reedApartUptoRow : OpenClaim := { program := "ytmdeldiocaofkaa", sum := "d75503425987810a392727207ab0bd63de891f554e9da7ba90e87749723c69df", func := "foghorn/foghornlaw19.ReedApart", spec := "reedApart", apart := false, narrowed := true }
def ReedApartUptoSaid : Prop := reedApartUptoRow.holds Try.pinned (OpenSpec.upto reedApartSpec)

/-- 'foghornlaw19.ReedWords', WHERE WHAT IT READS IS OF BULK AT MOST 1048576: true; the input reads as it did. -/
def reedWordsUptoRow : OpenClaim := { program := "ytmdeldiocaofkaa", sum := "d75503425987810a392727207ab0bd63de891f554e9da7ba90e87749723c69df", func := "foghorn/foghornlaw19.ReedWords", spec := "reedWords", apart := false, narrowed := true }
def ReedWordsUptoSaid : Prop := reedWordsUptoRow.holds Try.pinned (OpenSpec.upto reedWordsSpec)

/-- 'foghornlaw18.FieldRings', WHERE WHAT IT READS IS OF BULK AT MOST 1048576: true; the input reads as it did. -/
def fieldRingsUptoRow : OpenClaim := { program := "ytmdeldiocaofkaa", sum := "d75503425987810a392727207ab0bd63de891f554e9da7ba90e87749723c69df", func := "foghorn/foghornlaw18.FieldRings", spec := "fieldRings", unfollowed := true, recurses := true, apart := false, narrowed := true }
def FieldRingsUptoSaid : Prop := fieldRingsUptoRow.holds Try.pinned (OpenSpec.upto fieldRingsSpec)

/-- 'foghornlaw18.FieldRoots', WHERE WHAT IT READS IS OF BULK AT MOST 1048576: true; the input reads as it did. -/
def fieldRootsUptoRow : OpenClaim := { program := "ytmdeldiocaofkaa", sum := "d75503425987810a392727207ab0bd63de891f554e9da7ba90e87749723c69df", func := "foghorn/foghornlaw18.FieldRoots", spec := "fieldRoots", unfollowed := true, recurses := true, apart := false, narrowed := true }
def FieldRootsUptoSaid : Prop := fieldRootsUptoRow.holds Try.pinned (OpenSpec.upto fieldRootsSpec)

/-- 'foghornlaw18.FieldPolynomials', WHERE WHAT IT READS IS OF BULK AT MOST 1048576: true; the input reads as it did. -/
def fieldPolynomialsUptoRow : OpenClaim := { program := "ytmdeldiocaofkaa", sum := "d75503425987810a392727207ab0bd63de891f554e9da7ba90e87749723c69df", func := "foghorn/foghornlaw18.FieldPolynomials", spec := "fieldPolynomials", unfollowed := true, recurses := true, apart := false, narrowed := true }
def FieldPolynomialsUptoSaid : Prop := fieldPolynomialsUptoRow.holds Try.pinned (OpenSpec.upto fieldPolynomialsSpec)

/-- 'foghornlaw19.ReedNames', WHERE WHAT IT READS IS OF BULK AT MOST 1048576: true; the input reads as it did. -/
def reedNamesUptoRow : OpenClaim := { program := "ytmdeldiocaofkaa", sum := "d75503425987810a392727207ab0bd63de891f554e9da7ba90e87749723c69df", func := "foghorn/foghornlaw19.ReedNames", spec := "reedNames", inPlace := ["internal/abi.NoEscape"], unfollowed := true, recurses := true, apart := false, narrowed := true }
def ReedNamesUptoSaid : Prop := reedNamesUptoRow.holds Try.pinned (OpenSpec.upto reedNamesSpec)

end Rows
end Go.Proofs.Ytmdeldiocaofkaa
