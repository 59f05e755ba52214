import Derived.Test.YtncoakokdajibaaMendMendsReedRun
import Derived.Test.YtncoakokdajibaaMendMendsF1
/- How far two words are apart, and what a change at one place makes of it. -/
namespace Go.Proofs.Ytncoakokdajibaa.Sem
open Go.RowKit Go.Proofs.Ytncoakokdajibaa.Q Go.Proofs.YtncoakokdajibaaW.PrintWords Go.Proofs.YtncoakokdajibaaW.PrintLast Go.Proofs.YtncoakokdajibaaW.PrintMore Go.Proofs.Ytncoakokdajibaa.Gf
theorem bytesOf_B (p : List F) : bytesOf (B p) = L p := by
  unfold bytesOf L
  rw [B_data, List.toList_toArray, List.map_map]
  refine List.map_congr_left (fun a _ => ?_)
  show (((UInt8.ofNat a.val).toNat : Nat) : Int) = I a
  rw [u8_of_F]
  rfl
end Go.Proofs.Ytncoakokdajibaa.Sem
