/- The walk of the reference of lex.Lines: the same lines. -/
import Derived.Test.YtmpcekpdnikghaaGreatDoorProg
import Derived.Test.YtmpcekpdnikghaaGreatDoorLx
import Derived.Test.YtmpcekpdnikghaaGreatDoorPiecesLx
import Derived.Test.YtmpcekpdnikghaaGreatDoorLines
import Derived.Test.YtmpcekpdnikghaaGreatDoorWords
import Derived.WalkKit
import Derived.WalkSpells
import Derived.WalkLawsBesides
import Derived.BigGuardPart
import Derived.Lib.Hide
namespace Go.Proofs.YtmpcekpdnikghaaGreatDoor
open Go.RowKit

namespace Lx
theorem piecesTo_lt (s : ByteArray) (p : UInt8 → Bool) (n : Nat) : ∀ k, k ≤ n → ∀ x ∈ piecesTo s p k, x.1 < n
  | 0, _, x, hx => by simp [piecesTo] at hx
  | k + 1, h, x, hx => by
    rw [piecesTo] at hx
    split at hx
    · rw [List.mem_append] at hx
      rcases hx with hx | hx
      · exact piecesTo_lt s p n k (by omega) x hx
      · have := fromAt_le s p k
        simp at hx; rw [hx]; show fromAt s p k < n; omega
    · exact piecesTo_lt s p n k (by omega) x hx
theorem linesOf_piecesTo (s : ByteArray) : linesOf s.size (piecesTo s isLF s.size) = piecesTo s isLF s.size := by
  rw [linesOf, List.filter_eq_self]
  intro x hx
  exact decide_eq_true (piecesTo_lt s isLF s.size s.size (Nat.le_refl _) x hx)
/-- The lines that the reference has before it looks at place k. -/
def refTo (s : ByteArray) (k : Nat) : List (Nat × ByteArray) := if k ≤ s.size then piecesTo s isLF k else linesOf s.size (pieces s isLF)
theorem refTo_in (s : ByteArray) (k : Nat) (h : k ≤ s.size) : refTo s k = piecesTo s isLF k := if_pos h
theorem refTo_out (s : ByteArray) : refTo s (s.size + 1) = linesOf s.size (pieces s isLF) := if_neg (by omega)
theorem refTo_last (s : ByteArray) (h : fromAt s isLF s.size < s.size) : refTo s (s.size + 1) = refTo s s.size ++ [(fromAt s isLF s.size, s.extract (fromAt s isLF s.size) s.size)] := by
  rw [refTo_out, refTo_in s _ (Nat.le_refl _), pieces, linesOf_hit _ _ _ h, linesOf_piecesTo]
theorem refTo_none (s : ByteArray) (h : ¬ fromAt s isLF s.size < s.size) : refTo s (s.size + 1) = refTo s s.size := by
  rw [refTo_out, refTo_in s _ (Nat.le_refl _), pieces, linesOf_miss _ _ _ h, linesOf_piecesTo]
theorem refTo_le (s : ByteArray) (k : Nat) (h : k ≤ s.size) : (refTo s k).length ≤ s.size := by
  rw [refTo_in s k h]; have := piecesTo_le s isLF k; omega
theorem isLF_iff (c : UInt8) : isLF c = true ↔ (c.toNat : Int) = 10 := by
  unfold isLF; rw [beq_iff_eq]; omega
theorem own_base {w : World} {base : Nat} {e : TypeId} {size n : Nat} {v : Value} {xs : List Value} (h : w.ownsRow base e size v n xs) : ∀ g, v.ownBlock = some g → base ≤ g := by
  intro g hg
  rcases h.2 with ⟨rfl, _⟩ | ⟨g', cap, cur, rfl, hb, _⟩
  · simp [Value.ownBlock] at hg
  · have : g' = g := by simpa [Value.ownBlock] using hg
    omega
end Lx

end Go.Proofs.YtmpcekpdnikghaaGreatDoor
