/- Plain facts on what lex.Cut gives. -/
import Derived.Test.YtpjocfkolnfjiaaGreatDoorLx
import Derived.Test.YtpjocfkolnfjiaaGreatDoorDigitsP
namespace Go.Proofs.YtpjocfkolnfjiaaGreatDoor.Lx
open Go Go.RowKit

theorem toUInt8_toNat (c : UInt8) : c.toNat.toUInt8 = c := by
  show UInt8.ofNat c.toNat = c
  exact UInt8.ofNat_toNat
theorem indexByte_in (s : ByteArray) (c : UInt8) (h : idx s c < s.size) : Lib.indexByte s.data.toList c = (idx s c : Int) := by
  rw [indexByte_idx, if_pos (by rw [← Lib.size_eq]; exact h)]; rfl
theorem indexByte_out (s : ByteArray) (c : UInt8) (h : ¬ idx s c < s.size) : Lib.indexByte s.data.toList c = -1 := by
  rw [indexByte_idx, if_neg (by rw [← Lib.size_eq]; exact h)]
theorem cutA_data (s : ByteArray) (c : UInt8) : (cutA s c).data.toList = s.data.toList.take (idx s c) := ext_data s _
theorem cutA_size (s : ByteArray) (c : UInt8) : (cutA s c).size ≤ s.size := by
  rw [Lib.size_eq, cutA_data, List.length_take, Lib.size_eq]; omega
theorem cutB_size (s : ByteArray) (c : UInt8) : (cutB s c).size ≤ s.size := by
  rw [Lib.size_eq, cutB, Lib.extract_data, List.length_take, List.length_drop, Lib.size_eq]; omega
theorem indexByte_cutA (s : ByteArray) (c : UInt8) : Lib.indexByte (cutA s c).data.toList c = -1 := by
  rw [indexByte_idx, if_neg]
  rw [cutA_data]
  intro h
  have h1 := List.findIdx_getElem (p := (· == c)) (w := h)
  have h2 : (s.data.toList.take (idx s c)).findIdx (· == c) < idx s c := by rw [List.length_take] at h; omega
  rw [List.getElem_take] at h1
  have h3 := List.not_of_lt_findIdx (p := (· == c)) (xs := s.data.toList) (i := (s.data.toList.take (idx s c)).findIdx (· == c)) h2
  rw [h3] at h1; cases h1
theorem cut_back (s : ByteArray) (c : UInt8) (h : idx s c < s.size) : cutA s c ++ one c ++ cutB s c = s := by
  have hk : idx s c < s.data.toList.length := by rw [← Lib.size_eq]; exact h
  have hc : s.data.toList[idx s c] = c := by
    have := List.findIdx_getElem (p := (· == c)) (xs := s.data.toList) (w := hk)
    rw [beq_iff_eq] at this; exact this
  have e : (cutB s c).data.toList = s.data.toList.drop (idx s c + 1) := by
    rw [cutB, Lib.extract_data, List.take_of_length_le]
    rw [List.length_drop, Lib.size_eq]; exact Nat.le_refl _
  have e2 : (cutA s c ++ one c ++ cutB s c).data.toList = s.data.toList := by
    rw [ByteArray.data_append, ByteArray.data_append, Array.toList_append, Array.toList_append, cutA_data, e]
    show List.take (idx s c) s.data.toList ++ [c] ++ List.drop (idx s c + 1) s.data.toList = s.data.toList
    have h2 : List.take (idx s c) s.data.toList ++ [c] = List.take (idx s c + 1) s.data.toList := by
      rw [List.take_succ_eq_append_getElem hk, hc]
    rw [h2, List.take_append_drop]
  rw [← Lib.mk_data (cutA s c ++ one c ++ cutB s c), e2, Lib.mk_data]
end Go.Proofs.YtpjocfkolnfjiaaGreatDoor.Lx
