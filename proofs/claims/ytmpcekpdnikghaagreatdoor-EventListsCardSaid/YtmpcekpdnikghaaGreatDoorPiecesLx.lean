/- Plain facts on the pieces of a text between bytes of some kind. No program in sight. -/
import Derived.Test.YtmpcekpdnikghaaGreatDoorLx
namespace Go.Proofs.YtmpcekpdnikghaaGreatDoor.Lx
open Go Go.RowKit

/-- Where the piece begins that k lies in. -/
def fromAt (s : ByteArray) (p : UInt8 → Bool) : Nat → Nat
  | 0 => 0
  | k + 1 => if p s.data[k]! then k + 1 else fromAt s p k
/-- The pieces that end before k. -/
def piecesTo (s : ByteArray) (p : UInt8 → Bool) : Nat → List (Nat × ByteArray)
  | 0 => []
  | k + 1 => if p s.data[k]! then piecesTo s p k ++ [(fromAt s p k, s.extract (fromAt s p k) k)] else piecesTo s p k
/-- All pieces. -/
def pieces (s : ByteArray) (p : UInt8 → Bool) : List (Nat × ByteArray) := piecesTo s p s.size ++ [(fromAt s p s.size, s.extract (fromAt s p s.size) s.size)]
theorem fromAt_le (s : ByteArray) (p : UInt8 → Bool) : ∀ k, fromAt s p k ≤ k
  | 0 => Nat.le_refl _
  | k + 1 => by
    rw [fromAt]; split
    · exact Nat.le_refl _
    · exact Nat.le_succ_of_le (fromAt_le s p k)
theorem piecesTo_le (s : ByteArray) (p : UInt8 → Bool) : ∀ k, (piecesTo s p k).length ≤ k
  | 0 => Nat.le_refl _
  | k + 1 => by
    rw [piecesTo]; split
    · rw [List.length_append]; have := piecesTo_le s p k; simp; omega
    · exact Nat.le_succ_of_le (piecesTo_le s p k)
theorem from_hit (s : ByteArray) (p : UInt8 → Bool) (k : Nat) (hk : k < s.size) (h : p s[k] = true) : fromAt s p (k + 1) = k + 1 ∧ piecesTo s p (k + 1) = piecesTo s p k ++ [(fromAt s p k, s.extract (fromAt s p k) k)] := by
  rw [fromAt, piecesTo, getB s k hk, if_pos h, if_pos h]; exact ⟨rfl, rfl⟩
theorem from_miss (s : ByteArray) (p : UInt8 → Bool) (k : Nat) (hk : k < s.size) (h : p s[k] = false) : fromAt s p (k + 1) = fromAt s p k ∧ piecesTo s p (k + 1) = piecesTo s p k := by
  rw [fromAt, piecesTo, getB s k hk, if_neg (by simp [h]), if_neg (by simp [h])]; exact ⟨rfl, rfl⟩
theorem pieces_le (s : ByteArray) (p : UInt8 → Bool) : (pieces s p).length ≤ s.size + 1 := by
  rw [pieces, List.length_append]; have := piecesTo_le s p s.size; simp; omega
end Go.Proofs.YtmpcekpdnikghaaGreatDoor.Lx
