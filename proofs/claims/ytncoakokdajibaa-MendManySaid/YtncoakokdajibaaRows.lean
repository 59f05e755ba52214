/-
  No cell of these rows narrows 'for every input' (looked for: loops, veiled, ifaces, maps, wideKeys, modest, calm, conditions, laid).
  DERIVED. THE GIVEN ROWS OF THIS SEAT. 14 by the template 'for every input the law returns true; each argument reads behind the call as it read before'; 0 by the template 'total and deterministic' (their statements: YtncoakokdajibaaTotals.lean).
  GIVEN WITH THE SEED: the statements are not yours to turn. If you find one false, say at which input.
  Laid BY PROGRAM, IN A SANDBOX (cutbox-rows.mjs): the forced cells as the released guide's own fill.sh prints them over the translation bee7d9bf41921d4d… (all of the seat's roots in one cut). By AI agents, Wed Nov 11 2026. No macro, syntax, notation, axiom, sorry.
-/
import Derived.Test.YtncoakokdajibaaChecked
import GoSem.Claim
import GoSem.ClaimJoined
import GoSem.ClaimMapViews
import Derived.JoinedTies
import Derived.KernelRfl
namespace Go.Proofs.Ytncoakokdajibaa
/- THE CELL 'sum', in the pinned program and in every row, IS THE sha256 OF THE DUMP (.gsa) THAT YtncoakokdajibaaProg.lean LOADS. Nothing in Lean hashes anything: it is a label: what it is worth is what the hold of that sum in a sandbox is worth. -/
noncomputable def Try.pinned : Pinned := { name := "ytncoakokdajibaa", sum := "bee7d9bf41921d4d5f3674ae7b1f38401e2d5d4d9470b3344191a19e5862312d", checked := Try.checked }
namespace Rows
def none {H : Type} : Left H := { results := [], args := [] }

/-- 'foghornlaw19.ReedLinear': WHATEVER THE INPUT: true; the input reads as it did. -/
def reedLinearSpec : ChangeSpec := { name := "reedLinear", fn := fun _ => fun
  | [d1, d2, d3, d4] => { results := [.lit (.bool true)], args := [d1, d2, d3, d4] }
  | _ => none }
def reedLinearRow : OpenClaim := { program := "ytncoakokdajibaa", sum := "bee7d9bf41921d4d5f3674ae7b1f38401e2d5d4d9470b3344191a19e5862312d", func := "foghorn/foghornlaw19.ReedLinear", spec := "reedLinear", apart := false }
def ReedLinearSaid : Prop := reedLinearRow.holds Try.pinned (OpenSpec.ofChange reedLinearSpec)

/-- ITS FALSE NEIGHBOUR: 'it returns false'. Refute it at one input. -/
def reedLinearWrong : ChangeSpec := { name := "reedLinear", fn := fun _ => fun
  | [d1, d2, d3, d4] => { results := [.lit (.bool false)], args := [d1, d2, d3, d4] }
  | _ => none }
def ReedLinearWrongFalsely : Prop := reedLinearRow.holds Try.pinned (OpenSpec.ofChange reedLinearWrong)

/-- 'foghornlaw19.ReedOne': WHATEVER THE INPUT: true; the input reads as it did. -/
def reedOneSpec : ChangeSpec := { name := "reedOne", fn := fun _ => fun
  | [d1, d2] => { results := [.lit (.bool true)], args := [d1, d2] }
  | _ => none }
def reedOneRow : OpenClaim := { program := "ytncoakokdajibaa", sum := "bee7d9bf41921d4d5f3674ae7b1f38401e2d5d4d9470b3344191a19e5862312d", func := "foghorn/foghornlaw19.ReedOne", spec := "reedOne", apart := false }
def ReedOneSaid : Prop := reedOneRow.holds Try.pinned (OpenSpec.ofChange reedOneSpec)

/-- ITS FALSE NEIGHBOUR: 'it returns false'. Refute it at one input. -/
def reedOneWrong : ChangeSpec := { name := "reedOne", fn := fun _ => fun
  | [d1, d2] => { results := [.lit (.bool false)], args := [d1, d2] }
  | _ => none }
def ReedOneWrongFalsely : Prop := reedOneRow.holds Try.pinned (OpenSpec.ofChange reedOneWrong)

/-- 'foghornlaw19.ReedApart': WHATEVER THE INPUT: true; the input reads as it did. -/
def reedApartSpec : ChangeSpec := { name := "reedApart", fn := fun _ => fun
  | [d1, d2, d3, d4] => { results := [.lit (.bool true)], args := [d1, d2, d3, d4] }
  | _ => none }
def reedApartRow : OpenClaim := { program := "ytncoakokdajibaa", sum := "bee7d9bf41921d4d5f3674ae7b1f38401e2d5d4d9470b3344191a19e5862312d", func := "foghorn/foghornlaw19.ReedApart", spec := "reedApart", apart := false }
def ReedApartSaid : Prop := reedApartRow.holds Try.pinned (OpenSpec.ofChange reedApartSpec)

/-- ITS FALSE NEIGHBOUR: 'it returns false'. Refute it at one input. -/
def reedApartWrong : ChangeSpec := { name := "reedApart", fn := fun _ => fun
  | [d1, d2, d3, d4] => { results := [.lit (.bool false)], args := [d1, d2, d3, d4] }
  | _ => none }
def ReedApartWrongFalsely : Prop := reedApartRow.holds Try.pinned (OpenSpec.ofChange reedApartWrong)

/-- 'foghornlaw19.ReedWords': WHATEVER THE INPUT: true; the input reads as it did. -/
def reedWordsSpec : ChangeSpec := { name := "reedWords", fn := fun _ => fun
  | [d1, d2, d3, d4] => { results := [.lit (.bool true)], args := [d1, d2, d3, d4] }
  | _ => none }
def reedWordsRow : OpenClaim := { program := "ytncoakokdajibaa", sum := "bee7d9bf41921d4d5f3674ae7b1f38401e2d5d4d9470b3344191a19e5862312d", func := "foghorn/foghornlaw19.ReedWords", spec := "reedWords", apart := false }
def ReedWordsSaid : Prop := reedWordsRow.holds Try.pinned (OpenSpec.ofChange reedWordsSpec)

/-- ITS FALSE NEIGHBOUR: 'it returns false'. Refute it at one input. -/
def reedWordsWrong : ChangeSpec := { name := "reedWords", fn := fun _ => fun
  | [d1, d2, d3, d4] => { results := [.lit (.bool false)], args := [d1, d2, d3, d4] }
  | _ => none }
def ReedWordsWrongFalsely : Prop := reedWordsRow.holds Try.pinned (OpenSpec.ofChange reedWordsWrong)

/-- 'foghornlaw19.ReedNames': WHATEVER THE INPUT: true; the input reads as it did. -/
def reedNamesSpec : ChangeSpec := { name := "reedNames", fn := fun _ => fun
  | [] => { results := [.lit (.bool true)], args := [] }
  | _ => none }
def reedNamesRow : OpenClaim := { program := "ytncoakokdajibaa", sum := "bee7d9bf41921d4d5f3674ae7b1f38401e2d5d4d9470b3344191a19e5862312d", func := "foghorn/foghornlaw19.ReedNames", spec := "reedNames", inPlace := ["internal/abi.NoEscape"], unfollowed := true, recurses := true, apart := false }
def ReedNamesSaid : Prop := reedNamesRow.holds Try.pinned (OpenSpec.ofChange reedNamesSpec)

/-- ITS FALSE NEIGHBOUR: 'it returns false'. Refute it at one input. -/
def reedNamesWrong : ChangeSpec := { name := "reedNames", fn := fun _ => fun
  | [] => { results := [.lit (.bool false)], args := [] }
  | _ => none }
def ReedNamesWrongFalsely : Prop := reedNamesRow.holds Try.pinned (OpenSpec.ofChange reedNamesWrong)

/-- 'foghornlaw19.ReedMessages': WHATEVER THE INPUT: true; the input reads as it did. -/
def reedMessagesSpec : ChangeSpec := { name := "reedMessages", fn := fun _ => fun
  | [d1, d2, d3, d4] => { results := [.lit (.bool true)], args := [d1, d2, d3, d4] }
  | _ => none }
def reedMessagesRow : OpenClaim := { program := "ytncoakokdajibaa", sum := "bee7d9bf41921d4d5f3674ae7b1f38401e2d5d4d9470b3344191a19e5862312d", func := "foghorn/foghornlaw19.ReedMessages", spec := "reedMessages", inPlace := ["internal/abi.NoEscape"], unfollowed := true, recurses := true, apart := false }
def ReedMessagesSaid : Prop := reedMessagesRow.holds Try.pinned (OpenSpec.ofChange reedMessagesSpec)

/-- ITS FALSE NEIGHBOUR: 'it returns false'. Refute it at one input. -/
def reedMessagesWrong : ChangeSpec := { name := "reedMessages", fn := fun _ => fun
  | [d1, d2, d3, d4] => { results := [.lit (.bool false)], args := [d1, d2, d3, d4] }
  | _ => none }
def ReedMessagesWrongFalsely : Prop := reedMessagesRow.holds Try.pinned (OpenSpec.ofChange reedMessagesWrong)

/-- 'foghornlaw19.ReedBack': WHATEVER THE INPUT: true; the input reads as it did. -/
def reedBackSpec : ChangeSpec := { name := "reedBack", fn := fun _ => fun
  | [d1, d2, d3, d4] => { results := [.lit (.bool true)], args := [d1, d2, d3, d4] }
  | _ => none }
def reedBackRow : OpenClaim := { program := "ytncoakokdajibaa", sum := "bee7d9bf41921d4d5f3674ae7b1f38401e2d5d4d9470b3344191a19e5862312d", func := "foghorn/foghornlaw19.ReedBack", spec := "reedBack", inPlace := ["internal/abi.NoEscape"], unfollowed := true, recurses := true, apart := false }
def ReedBackSaid : Prop := reedBackRow.holds Try.pinned (OpenSpec.ofChange reedBackSpec)

/-- ITS FALSE NEIGHBOUR: 'it returns false'. Refute it at one input. -/
def reedBackWrong : ChangeSpec := { name := "reedBack", fn := fun _ => fun
  | [d1, d2, d3, d4] => { results := [.lit (.bool false)], args := [d1, d2, d3, d4] }
  | _ => none }
def ReedBackWrongFalsely : Prop := reedBackRow.holds Try.pinned (OpenSpec.ofChange reedBackWrong)

/-- 'foghornlaw18.FieldNone': WHATEVER THE INPUT: true; the input reads as it did. -/
def fieldNoneSpec : ChangeSpec := { name := "fieldNone", fn := fun _ => fun
  | [] => { results := [.lit (.bool true)], args := [] }
  | _ => none }
def fieldNoneRow : OpenClaim := { program := "ytncoakokdajibaa", sum := "bee7d9bf41921d4d5f3674ae7b1f38401e2d5d4d9470b3344191a19e5862312d", func := "foghorn/foghornlaw18.FieldNone", spec := "fieldNone", unfollowed := true, recurses := true, apart := false }
def FieldNoneSaid : Prop := fieldNoneRow.holds Try.pinned (OpenSpec.ofChange fieldNoneSpec)

/-- ITS FALSE NEIGHBOUR: 'it returns false'. Refute it at one input. -/
def fieldNoneWrong : ChangeSpec := { name := "fieldNone", fn := fun _ => fun
  | [] => { results := [.lit (.bool false)], args := [] }
  | _ => none }
def FieldNoneWrongFalsely : Prop := fieldNoneRow.holds Try.pinned (OpenSpec.ofChange fieldNoneWrong)

/-- 'foghornlaw20.MendReach': WHATEVER THE INPUT: true; the input reads as it did. -/
def mendReachSpec : ChangeSpec := { name := "mendReach", fn := fun _ => fun
  | [d1, d2, d3] => { results := [.lit (.bool true)], args := [d1, d2, d3] }
  | _ => none }
def mendReachRow : OpenClaim := { program := "ytncoakokdajibaa", sum := "bee7d9bf41921d4d5f3674ae7b1f38401e2d5d4d9470b3344191a19e5862312d", func := "foghorn/foghornlaw20.MendReach", spec := "mendReach", apart := false }
def MendReachSaid : Prop := mendReachRow.holds Try.pinned (OpenSpec.ofChange mendReachSpec)

/-- ITS FALSE NEIGHBOUR: 'it returns false'. Refute it at one input. -/
def mendReachWrong : ChangeSpec := { name := "mendReach", fn := fun _ => fun
  | [d1, d2, d3] => { results := [.lit (.bool false)], args := [d1, d2, d3] }
  | _ => none }
def MendReachWrongFalsely : Prop := mendReachRow.holds Try.pinned (OpenSpec.ofChange mendReachWrong)

/-- 'foghornlaw20.MendNever': WHATEVER THE INPUT: true; the input reads as it did. -/
def mendNeverSpec : ChangeSpec := { name := "mendNever", fn := fun _ => fun
  | [d1, d2, d3, d4] => { results := [.lit (.bool true)], args := [d1, d2, d3, d4] }
  | _ => none }
def mendNeverRow : OpenClaim := { program := "ytncoakokdajibaa", sum := "bee7d9bf41921d4d5f3674ae7b1f38401e2d5d4d9470b3344191a19e5862312d", func := "foghorn/foghornlaw20.MendNever", spec := "mendNever", apart := false }
def MendNeverSaid : Prop := mendNeverRow.holds Try.pinned (OpenSpec.ofChange mendNeverSpec)

/-- ITS FALSE NEIGHBOUR: 'it returns false'. Refute it at one input. -/
def mendNeverWrong : ChangeSpec := { name := "mendNever", fn := fun _ => fun
  | [d1, d2, d3, d4] => { results := [.lit (.bool false)], args := [d1, d2, d3, d4] }
  | _ => none }
def MendNeverWrongFalsely : Prop := mendNeverRow.holds Try.pinned (OpenSpec.ofChange mendNeverWrong)

/-- 'foghornlaw20.MendOver': WHATEVER THE INPUT: true; the input reads as it did. -/
def mendOverSpec : ChangeSpec := { name := "mendOver", fn := fun _ => fun
  | [d1, d2, d3, d4, d5, d6] => { results := [.lit (.bool true)], args := [d1, d2, d3, d4, d5, d6] }
  | _ => none }
def mendOverRow : OpenClaim := { program := "ytncoakokdajibaa", sum := "bee7d9bf41921d4d5f3674ae7b1f38401e2d5d4d9470b3344191a19e5862312d", func := "foghorn/foghornlaw20.MendOver", spec := "mendOver", apart := false }
def MendOverSaid : Prop := mendOverRow.holds Try.pinned (OpenSpec.ofChange mendOverSpec)

/-- ITS FALSE NEIGHBOUR: 'it returns false'. Refute it at one input. -/
def mendOverWrong : ChangeSpec := { name := "mendOver", fn := fun _ => fun
  | [d1, d2, d3, d4, d5, d6] => { results := [.lit (.bool false)], args := [d1, d2, d3, d4, d5, d6] }
  | _ => none }
def MendOverWrongFalsely : Prop := mendOverRow.holds Try.pinned (OpenSpec.ofChange mendOverWrong)

/-- 'foghornlaw20.MendMends': WHATEVER THE INPUT: true; the input reads as it did. -/
def mendMendsSpec : ChangeSpec := { name := "mendMends", fn := fun _ => fun
  | [d1, d2, d3, d4, d5] => { results := [.lit (.bool true)], args := [d1, d2, d3, d4, d5] }
  | _ => none }
def mendMendsRow : OpenClaim := { program := "ytncoakokdajibaa", sum := "bee7d9bf41921d4d5f3674ae7b1f38401e2d5d4d9470b3344191a19e5862312d", func := "foghorn/foghornlaw20.MendMends", spec := "mendMends", apart := false }
def MendMendsSaid : Prop := mendMendsRow.holds Try.pinned (OpenSpec.ofChange mendMendsSpec)

/-- ITS FALSE NEIGHBOUR: 'it returns false'. Refute it at one input. -/
def mendMendsWrong : ChangeSpec := { name := "mendMends", fn := fun _ => fun
  | [d1, d2, d3, d4, d5] => { results := [.lit (.bool false)], args := [d1, d2, d3, d4, d5] }
  | _ => none }
def MendMendsWrongFalsely : Prop := mendMendsRow.holds Try.pinned (OpenSpec.ofChange mendMendsWrong)

/-- 'foghornlaw20.MendMany': WHATEVER THE INPUT: true; the input reads as it did. -/
def mendManySpec : ChangeSpec := { name := "mendMany", fn := fun _ => fun
  | [d1, d2, d3] => { results := [.lit (.bool true)], args := [d1, d2, d3] }
  | _ => none }
def mendManyRow : OpenClaim := { program := "ytncoakokdajibaa", sum := "bee7d9bf41921d4d5f3674ae7b1f38401e2d5d4d9470b3344191a19e5862312d", func := "foghorn/foghornlaw20.MendMany", spec := "mendMany", inPlace := ["internal/abi.NoEscape"], apart := false }
def MendManySaid : Prop := mendManyRow.holds Try.pinned (OpenSpec.ofChange mendManySpec)

/-- ITS FALSE NEIGHBOUR: 'it returns false'. Refute it at one input. -/
def mendManyWrong : ChangeSpec := { name := "mendMany", fn := fun _ => fun
  | [d1, d2, d3] => { results := [.lit (.bool false)], args := [d1, d2, d3] }
  | _ => none }
def MendManyWrongFalsely : Prop := mendManyRow.holds Try.pinned (OpenSpec.ofChange mendManyWrong)

/-- 'foghornlaw20.MendNames': WHATEVER THE INPUT: true; the input reads as it did. -/
def mendNamesSpec : ChangeSpec := { name := "mendNames", fn := fun _ => fun
  | [] => { results := [.lit (.bool true)], args := [] }
  | _ => none }
def mendNamesRow : OpenClaim := { program := "ytncoakokdajibaa", sum := "bee7d9bf41921d4d5f3674ae7b1f38401e2d5d4d9470b3344191a19e5862312d", func := "foghorn/foghornlaw20.MendNames", spec := "mendNames", inPlace := ["internal/abi.NoEscape"], apart := false }
def MendNamesSaid : Prop := mendNamesRow.holds Try.pinned (OpenSpec.ofChange mendNamesSpec)

/-- ITS FALSE NEIGHBOUR: 'it returns false'. Refute it at one input. -/
def mendNamesWrong : ChangeSpec := { name := "mendNames", fn := fun _ => fun
  | [] => { results := [.lit (.bool false)], args := [] }
  | _ => none }
def MendNamesWrongFalsely : Prop := mendNamesRow.holds Try.pinned (OpenSpec.ofChange mendNamesWrong)

/- THE SECOND FORM. 'bulk': how many values and letters a reading holds, each counted each time it is reached (what is shared counts as often as it is met; a slice's spare places count too). A statement '..UptoSaid' is the law's where the arguments, and the package variables that the reading takes, are together of bulk at most 1048576: NARROWER than '..Said'. Prove '..Said' where nothing that the law and all that it calls make is longer than what came in: it says more and counts as full. Else prove '..UptoSaid'. A law counts once. -/
mutual
def uptoBulk {H : Type} : DataW H → Nat
  | .lit (.string bytes) => bytes.length + 1
  | .lit _ => 1
  | .nil => 1
  | .ptr d => uptoBulk d + 1
  | .slice elems spare => uptoBulkAll elems + uptoBulkAll spare + 1
  | .agg parts => uptoBulkAll parts + 1
  | .iface _ d => uptoBulk d + 1
  | .map entries => uptoBulkEntries entries + 1
  | .held _ => 1
def uptoBulkAll {H : Type} : List (DataW H) → Nat
  | [] => 0
  | d :: r => uptoBulk d + uptoBulkAll r
def uptoBulkEntries {H : Type} : List (Lit × DataW H) → Nat
  | [] => 0
  | x :: r => uptoBulkEntry x + uptoBulkEntries r
def uptoBulkEntry {H : Type} : Lit × DataW H → Nat
  | (.string bytes, d) => bytes.length + uptoBulk d + 1
  | (_, d) => uptoBulk d + 1
 end
def uptoSmall : (H : Type) → List (DataW H) → Bool := fun _ ds => decide (uptoBulkAll ds ≤ 1048576)
def OpenSpec.upto (s : _root_.Go.ChangeSpec) : _root_.Go.OpenSpec := { _root_.Go.OpenSpec.ofChange s with cond := some uptoSmall }

/-- 'foghornlaw19.ReedLinear', WHERE WHAT IT READS IS OF BULK AT MOST 1048576: true; the input reads as it did. -/
def reedLinearUptoRow : OpenClaim := { program := "ytncoakokdajibaa", sum := "bee7d9bf41921d4d5f3674ae7b1f38401e2d5d4d9470b3344191a19e5862312d", func := "foghorn/foghornlaw19.ReedLinear", spec := "reedLinear", apart := false, narrowed := true }
def ReedLinearUptoSaid : Prop := reedLinearUptoRow.holds Try.pinned (OpenSpec.upto reedLinearSpec)

/-- 'foghornlaw19.ReedOne', WHERE WHAT IT READS IS OF BULK AT MOST 1048576: true; the input reads as it did. -/
def reedOneUptoRow : OpenClaim := { program := "ytncoakokdajibaa", sum := "bee7d9bf41921d4d5f3674ae7b1f38401e2d5d4d9470b3344191a19e5862312d", func := "foghorn/foghornlaw19.ReedOne", spec := "reedOne", apart := false, narrowed := true }
def ReedOneUptoSaid : Prop := reedOneUptoRow.holds Try.pinned (OpenSpec.upto reedOneSpec)

/-- 'foghornlaw19.ReedApart', WHERE WHAT IT READS IS OF BULK AT MOST 1048576: true; the input reads as it did. -/
def reedApartUptoRow : OpenClaim := { program := "ytncoakokdajibaa", sum := "bee7d9bf41921d4d5f3674ae7b1f38401e2d5d4d9470b3344191a19e5862312d", func := "foghorn/foghornlaw19.ReedApart", spec := "reedApart", apart := false, narrowed := true }
def ReedApartUptoSaid : Prop := reedApartUptoRow.holds Try.pinned (OpenSpec.upto reedApartSpec)

/-- 'foghornlaw19.ReedWords', WHERE WHAT IT READS IS OF BULK AT MOST 1048576: true; the input reads as it did. -/
def reedWordsUptoRow : OpenClaim := { program := "ytncoakokdajibaa", sum := "bee7d9bf41921d4d5f3674ae7b1f38401e2d5d4d9470b3344191a19e5862312d", func := "foghorn/foghornlaw19.ReedWords", spec := "reedWords", apart := false, narrowed := true }
def ReedWordsUptoSaid : Prop := reedWordsUptoRow.holds Try.pinned (OpenSpec.upto reedWordsSpec)

/-- 'foghornlaw19.ReedNames', WHERE WHAT IT READS IS OF BULK AT MOST 1048576: true; the input reads as it did. -/
def reedNamesUptoRow : OpenClaim := { program := "ytncoakokdajibaa", sum := "bee7d9bf41921d4d5f3674ae7b1f38401e2d5d4d9470b3344191a19e5862312d", func := "foghorn/foghornlaw19.ReedNames", spec := "reedNames", inPlace := ["internal/abi.NoEscape"], unfollowed := true, recurses := true, apart := false, narrowed := true }
def ReedNamesUptoSaid : Prop := reedNamesUptoRow.holds Try.pinned (OpenSpec.upto reedNamesSpec)

/-- 'foghornlaw19.ReedMessages', WHERE WHAT IT READS IS OF BULK AT MOST 1048576: true; the input reads as it did. -/
def reedMessagesUptoRow : OpenClaim := { program := "ytncoakokdajibaa", sum := "bee7d9bf41921d4d5f3674ae7b1f38401e2d5d4d9470b3344191a19e5862312d", func := "foghorn/foghornlaw19.ReedMessages", spec := "reedMessages", inPlace := ["internal/abi.NoEscape"], unfollowed := true, recurses := true, apart := false, narrowed := true }
def ReedMessagesUptoSaid : Prop := reedMessagesUptoRow.holds Try.pinned (OpenSpec.upto reedMessagesSpec)

/-- 'foghornlaw19.ReedBack', WHERE WHAT IT READS IS OF BULK AT MOST 1048576: true; the input reads as it did. -/
def reedBackUptoRow : OpenClaim := { program := "ytncoakokdajibaa", sum := "bee7d9bf41921d4d5f3674ae7b1f38401e2d5d4d9470b3344191a19e5862312d", func := "foghorn/foghornlaw19.ReedBack", spec := "reedBack", inPlace := ["internal/abi.NoEscape"], unfollowed := true, recurses := true, apart := false, narrowed := true }
def ReedBackUptoSaid : Prop := reedBackUptoRow.holds Try.pinned (OpenSpec.upto reedBackSpec)

/-- 'foghornlaw18.FieldNone', WHERE WHAT IT READS IS OF BULK AT MOST 1048576: true; the input reads as it did. -/
def fieldNoneUptoRow : OpenClaim := { program := "ytncoakokdajibaa", sum := "bee7d9bf41921d4d5f3674ae7b1f38401e2d5d4d9470b3344191a19e5862312d", func := "foghorn/foghornlaw18.FieldNone", spec := "fieldNone", unfollowed := true, recurses := true, apart := false, narrowed := true }
def FieldNoneUptoSaid : Prop := fieldNoneUptoRow.holds Try.pinned (OpenSpec.upto fieldNoneSpec)

/-- 'foghornlaw20.MendReach', WHERE WHAT IT READS IS OF BULK AT MOST 1048576: true; the input reads as it did. -/
def mendReachUptoRow : OpenClaim := { program := "ytncoakokdajibaa", sum := "bee7d9bf41921d4d5f3674ae7b1f38401e2d5d4d9470b3344191a19e5862312d", func := "foghorn/foghornlaw20.MendReach", spec := "mendReach", apart := false, narrowed := true }
def MendReachUptoSaid : Prop := mendReachUptoRow.holds Try.pinned (OpenSpec.upto mendReachSpec)

/-- 'foghornlaw20.MendNever', WHERE WHAT IT READS IS OF BULK AT MOST 1048576: true; the input reads as it did. -/
def mendNeverUptoRow : OpenClaim := { program := "ytncoakokdajibaa", sum := "bee7d9bf41921d4d5f3674ae7b1f38401e2d5d4d9470b3344191a19e5862312d", func := "foghorn/foghornlaw20.MendNever", spec := "mendNever", apart := false, narrowed := true }
def MendNeverUptoSaid : Prop := mendNeverUptoRow.holds Try.pinned (OpenSpec.upto mendNeverSpec)

/-- 'foghornlaw20.MendOver', WHERE WHAT IT READS IS OF BULK AT MOST 1048576: true; the input reads as it did. -/
def mendOverUptoRow : OpenClaim := { program := "ytncoakokdajibaa", sum := "bee7d9bf41921d4d5f3674ae7b1f38401e2d5d4d9470b3344191a19e5862312d", func := "foghorn/foghornlaw20.MendOver", spec := "mendOver", apart := false, narrowed := true }
def MendOverUptoSaid : Prop := mendOverUptoRow.holds Try.pinned (OpenSpec.upto mendOverSpec)

/-- 'foghornlaw20.MendMends', WHERE WHAT IT READS IS OF BULK AT MOST 1048576: true; the input reads as it did. -/
def mendMendsUptoRow : OpenClaim := { program := "ytncoakokdajibaa", sum := "bee7d9bf41921d4d5f3674ae7b1f38401e2d5d4d9470b3344191a19e5862312d", func := "foghorn/foghornlaw20.MendMends", spec := "mendMends", apart := false, narrowed := true }
def MendMendsUptoSaid : Prop := mendMendsUptoRow.holds Try.pinned (OpenSpec.upto mendMendsSpec)

/-- 'foghornlaw20.MendMany', WHERE WHAT IT READS IS OF BULK AT MOST 1048576: true; the input reads as it did. -/
def mendManyUptoRow : OpenClaim := { program := "ytncoakokdajibaa", sum := "bee7d9bf41921d4d5f3674ae7b1f38401e2d5d4d9470b3344191a19e5862312d", func := "foghorn/foghornlaw20.MendMany", spec := "mendMany", inPlace := ["internal/abi.NoEscape"], apart := false, narrowed := true }
def MendManyUptoSaid : Prop := mendManyUptoRow.holds Try.pinned (OpenSpec.upto mendManySpec)

/-- 'foghornlaw20.MendNames', WHERE WHAT IT READS IS OF BULK AT MOST 1048576: true; the input reads as it did. -/
def mendNamesUptoRow : OpenClaim := { program := "ytncoakokdajibaa", sum := "bee7d9bf41921d4d5f3674ae7b1f38401e2d5d4d9470b3344191a19e5862312d", func := "foghorn/foghornlaw20.MendNames", spec := "mendNames", inPlace := ["internal/abi.NoEscape"], apart := false, narrowed := true }
def MendNamesUptoSaid : Prop := mendNamesUptoRow.holds Try.pinned (OpenSpec.upto mendNamesSpec)

end Rows
end Go.Proofs.Ytncoakokdajibaa
