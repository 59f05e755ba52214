import Derived.Test.YtncoakokdajibaaMendManyBase
import Derived.Test.YtncoakokdajibaaMendManyArrW
import Derived.Test.YtncoakokdajibaaMendManyWMore
import Derived.Lib.Bytes
/- Texts as lists of the field's numbers. -/
namespace Go.Proofs.Ytncoakokdajibaa.Sem
open Go.RowKit Go.Proofs.YtncoakokdajibaaW.PrintWords Go.Proofs.YtncoakokdajibaaW.PrintLast Go.Proofs.YtncoakokdajibaaW.PrintMore Go.Proofs.Ytncoakokdajibaa.Gf
def B (p : List F) : ByteArray := strOfNums (L p)
theorem B_size (p : List F) : (B p).size = p.length := by unfold B; rw [strOfNums_size, L_length]
theorem B_data (p : List F) : (B p).data = (p.map (fun a => UInt8.ofNat a.val)).toArray := by
  unfold B strOfNums L
  rw [List.map_map]
  rfl
theorem B_ext {s t : ByteArray} (h : s.data = t.data) : s = t := by cases s; cases t; cases h; rfl
theorem B_of (s : ByteArray) : ∃ p : List F, s = B p := by
  refine ⟨s.data.toList.map (fun b => ⟨b.toNat, b.toNat_lt⟩), B_ext ?_⟩
  rw [B_data, List.map_map]
  apply Array.toList_inj.1
  rw [List.toList_toArray]
  refine (List.map_id _).symm.trans (List.map_congr_left (fun b _ => ?_))
  exact (UInt8.ofNat_toNat (x := b)).symm
theorem u8_of_F (a : F) : (UInt8.ofNat a.val).toNat = a.val := by
  have := a.lt
  rw [UInt8.toNat_ofNat']
  exact Nat.mod_eq_of_lt this
theorem bt_B (p : List F) (i : Int) : bt (B p) i = I (at_ p i.toNat) := by
  unfold bt
  split
  · rename_i h
    have hl : i.toNat < p.length := by rwa [B_size] at h
    rw [at_lt p _ hl]
    show (((B p).data[i.toNat]).toNat : Int) = _
    have : (B p).data[i.toNat] = UInt8.ofNat (p[i.toNat]).val := by
      simp only [B_data, List.getElem_toArray, List.getElem_map]
    rw [this, u8_of_F]
    rfl
  · rename_i h
    rw [B_size] at h
    rw [at_ge p _ (by omega)]
    rfl
theorem strOf (p : List F) : strOfNums (L p) = B p := rfl
theorem toNat_len (p : List F) : ((B p).size : Int) = (p.length : Int) := by rw [B_size]
end Go.Proofs.Ytncoakokdajibaa.Sem
