/- The walk of lex.Words: the words that it returns lie in a row of its own. -/
import Derived.RangeFuncNested
import Derived.RangeFuncBound
import Derived.RangeFuncCalls
import Derived.RangeFuncLeaves
import Derived.RangeFuncBox
import Derived.Shelf.Abstract
import Derived.Shelf.RegionOpen
import Derived.WalkKit
import Derived.OwnWalkIn
import Derived.TacticsInMore
import Derived.LoopNIn
import Derived.LoopIn
import Derived.Maps.AppendAt
import Derived.Lib.Hide
import Derived.Test.YtmpcekpdnikghaaGreatDoorProg
import Derived.Test.YtmpcekpdnikghaaGreatDoorLx
import Derived.Test.YtmpcekpdnikghaaGreatDoorPiecesLx
import Derived.Test.YtmpcekpdnikghaaGreatDoorPieces
import Derived.Test.YtmpcekpdnikghaaGreatDoorLines
namespace Go.Proofs.YtmpcekpdnikghaaGreatDoor
open Go.RowKit Go.Shelf
attribute [local go_sem] Oper.semAt_some

namespace Lx
/-- The words among the pieces. -/
def wordsOf (ps : List (Nat × ByteArray)) : List (Nat × ByteArray) := ps.filter fun x => decide (x.2.size ≠ 0)
/-- The cells of words. -/
def wordCells (l : List (Nat × ByteArray)) : List Value := l.flatMap fun x => [.int .i64 (x.1 : Int), .string x.2]
theorem wordCells_snoc (l : List (Nat × ByteArray)) (x : Nat × ByteArray) : wordCells (l ++ [x]) = wordCells l ++ [.int .i64 (x.1 : Int), .string x.2] := by
  simp [wordCells]
theorem wordCells_length (l : List (Nat × ByteArray)) : (wordCells l).length = l.length * 2 := by
  induction l with
  | nil => rfl
  | cons a m ih => unfold wordCells at *; simp only [List.flatMap_cons, List.length_append, ih, List.length_cons, List.length_nil]; omega
theorem wordsOf_hit (ps : List (Nat × ByteArray)) (x : Nat × ByteArray) (h : x.2.size ≠ 0) : wordsOf (ps ++ [x]) = wordsOf ps ++ [x] := by
  rw [wordsOf, List.filter_append, List.filter_cons_of_pos (by simpa using h)]; rfl
theorem wordsOf_miss (ps : List (Nat × ByteArray)) (x : Nat × ByteArray) (h : x.2.size = 0) : wordsOf (ps ++ [x]) = wordsOf ps := by
  rw [wordsOf, List.filter_append, List.filter_cons_of_neg (by simpa using h)]; simp [wordsOf]
theorem cell_two_new (w : World) (a b : Value) (t : TypeId) : ∀ j u, [a, b][j]? = some u → (w.alloc (.cells #[a, b] t)).cell? ((⟨w.heap.size, 0, none⟩ : Addr).add j) = some u := by
  intro j u hj
  match j, hj with
  | 0, hj => simp at hj; subst hj; simp [Addr.add]
  | 1, hj => simp at hj; subst hj; simp [Addr.add]
theorem strne' {s : ByteArray} (h : s.size ≠ 0) : s.toList.isEmpty = false := by
  rw [Lib.toList_data]
  cases h2 : s.data.toList with
  | nil => exact absurd (by rw [Lib.size_eq, h2]; rfl) h
  | cons a l => rfl
theorem streq' {s : ByteArray} (h : s.size = 0) : s.toList.isEmpty = true := by
  rw [Lib.toList_data, show s.data.toList = [] from List.eq_nil_of_length_eq_zero (by rw [← Lib.size_eq]; exact h)]; rfl
end Lx

end Go.Proofs.YtmpcekpdnikghaaGreatDoor
