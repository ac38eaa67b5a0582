/- The walks of lex.Join and of its reference: both join texts, or say that they are too long. -/
import Derived.Test.YtmpcekpdnikghaaGreatDoorProg
import Derived.Test.YtmpcekpdnikghaaGreatDoorLx
import Derived.Test.YtmpcekpdnikghaaGreatDoorShelf2
import Derived.Test.YtmpcekpdnikghaaGreatDoorBld
import Derived.Test.YtmpcekpdnikghaaGreatDoorWorks
import Derived.WalkKit
import Derived.WalkSpells
import Derived.WalkLawsBesides
import Derived.BigGuardPart
import Derived.Lib.Hide
import Derived.Lib.Strings
namespace Go.Proofs.YtmpcekpdnikghaaGreatDoor
open Go.RowKit

namespace Lx
/-- What the first k texts come to. -/
def joinTo (ss : List ByteArray) (sep : ByteArray) : Nat → List UInt8
  | 0 => []
  | k + 1 => (if 0 < k then joinTo ss sep k ++ sep.data.toList else joinTo ss sep k) ++ (ss.getD k ⟨#[]⟩).data.toList
def joinAll (ss : List ByteArray) (sep : ByteArray) : List UInt8 := joinTo ss sep ss.length
def joinS (ss : List ByteArray) (sep : ByteArray) : ByteArray := if (joinAll ss sep).length ≤ 65536 then ⟨(joinAll ss sep).toArray⟩ else ⟨#[]⟩
def joinE (ss : List ByteArray) (sep : ByteArray) : Int := if (joinAll ss sep).length ≤ 65536 then 0 else 11
theorem joinTo_mono (ss : List ByteArray) (sep : ByteArray) (k : Nat) : (joinTo ss sep k).length ≤ (joinTo ss sep (k + 1)).length := by
  rw [joinTo]; split <;> simp only [List.length_append] <;> omega
theorem joinTo_le (ss : List ByteArray) (sep : ByteArray) (k : Nat) : ∀ j, (joinTo ss sep k).length ≤ (joinTo ss sep (k + j)).length
  | 0 => Nat.le_refl _
  | j + 1 => Nat.le_trans (joinTo_le ss sep k j) (joinTo_mono ss sep (k + j))
theorem join_over {ss : List ByteArray} {sep : ByteArray} {k : Nat} (hk : k ≤ ss.length) (h : 65536 < (joinTo ss sep k).length) : joinS ss sep = ⟨#[]⟩ ∧ joinE ss sep = 11 := by
  have h2 := joinTo_le ss sep k (ss.length - k)
  rw [show k + (ss.length - k) = ss.length by omega] at h2
  unfold joinS joinE joinAll
  rw [if_neg (by omega), if_neg (by omega)]; exact ⟨rfl, rfl⟩
theorem join_fit {ss : List ByteArray} {sep : ByteArray} (h : (joinTo ss sep ss.length).length ≤ 65536) : joinS ss sep = ⟨(joinTo ss sep ss.length).toArray⟩ ∧ joinE ss sep = 0 := by
  unfold joinS joinE joinAll
  rw [if_pos h, if_pos h]; exact ⟨rfl, rfl⟩
theorem joinTo_one (ss : List ByteArray) (sep : ByteArray) (x : ByteArray) (h : ss[0]? = some x) : joinTo ss sep 1 = [] ++ x.data.toList := by
  have e : ss.getD 0 ⟨#[]⟩ = x := by rw [List.getD_eq_getElem?_getD, h]; rfl
  rw [joinTo, if_neg (by omega), joinTo, e]
theorem joinTo_more (ss : List ByteArray) (sep : ByteArray) (k : Nat) (x : ByteArray) (hk : 0 < k) (h : ss[k]? = some x) : joinTo ss sep (k + 1) = joinTo ss sep k ++ sep.data.toList ++ x.data.toList := by
  have e : ss.getD k ⟨#[]⟩ = x := by rw [List.getD_eq_getElem?_getD, h]; rfl
  rw [joinTo, if_pos hk, e]
theorem cells_app (l : List UInt8) (s : ByteArray) : Lib.byteCells l ++ Lib.strCells s = Lib.byteCells (l ++ s.data.toList) := by
  unfold Lib.byteCells Lib.strCells; rw [List.map_append]
theorem cells_len (l : List UInt8) : (Lib.byteCells l).length = l.length := by unfold Lib.byteCells; rw [List.length_map]
end Lx

end Go.Proofs.YtmpcekpdnikghaaGreatDoor
