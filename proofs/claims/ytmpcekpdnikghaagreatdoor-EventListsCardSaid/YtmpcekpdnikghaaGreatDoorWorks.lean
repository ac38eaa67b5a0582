/- The walk of works, the examples of the chapter that every law of it runs: true. -/
import Derived.Test.YtmpcekpdnikghaaGreatDoorProg
import Derived.Test.YtmpcekpdnikghaaGreatDoorLx
import Derived.Test.YtmpcekpdnikghaaGreatDoorNum
import Derived.Test.YtmpcekpdnikghaaGreatDoorEnv
import Derived.Test.YtmpcekpdnikghaaGreatDoorCut
import Derived.Test.YtmpcekpdnikghaaGreatDoorNumber
import Derived.Test.YtmpcekpdnikghaaGreatDoorPlace
import Derived.Test.YtmpcekpdnikghaaGreatDoorDigits
import Derived.Test.YtmpcekpdnikghaaGreatDoorLines
import Derived.Test.YtmpcekpdnikghaaGreatDoorWords
import Derived.Laws.OwnMore
import Derived.BigGuardPart
namespace Go.Proofs.YtmpcekpdnikghaaGreatDoor
open Go.RowKit

namespace Lx
theorem ex_lines : linesOf 5 (pieces ⟨#[97, 98, 10, 10, 99]⟩ isLF) = [(0, ⟨#[97, 98]⟩), (3, ⟨#[]⟩), (4, ⟨#[99]⟩)] := by kernel_rfl
theorem ex_words : wordsOf (pieces ⟨#[32, 97, 98, 9, 32, 99]⟩ isBlank) = [(1, ⟨#[97, 98]⟩), (5, ⟨#[99]⟩)] := by kernel_rfl
theorem ex_cutA : cutA ⟨#[97, 61, 98, 61, 99]⟩ 61 = ⟨#[97]⟩ := by kernel_rfl
theorem ex_cutB : cutB ⟨#[97, 61, 98, 61, 99]⟩ 61 = ⟨#[98, 61, 99]⟩ := by kernel_rfl
theorem ex_cutIs : cutIs ⟨#[97, 61, 98, 61, 99]⟩ 61 = true := by kernel_rfl
theorem ex_num : numRes [45, 49, 50] = -12 := by kernel_rfl
theorem ex_numE : numErr [45, 49, 50] = 0 := by kernel_rfl
theorem ex_num7 : numRes [48, 48, 55] = 0 := by kernel_rfl
theorem ex_num7E : numErr [48, 48, 55] = 10 := by kernel_rfl
theorem ex_line : lineAt ⟨#[97, 98, 10, 99, 100]⟩ 4 = 2 := by kernel_rfl
theorem ex_col : colAt ⟨#[97, 98, 10, 99, 100]⟩ 4 = 2 := by kernel_rfl
theorem ex_itoa : Lib.itoa (-12) = [45, 49, 50] := by decide +kernel
theorem row_cell {w : World} {base : Nat} {e : TypeId} {size n cap g : Nat} {xs : List Value} (h : w.ownsRow base e size (.slice (some ⟨g, 0, none⟩) n cap) n xs) (j : Nat) (u : Value) (hj : xs[j]? = some u) : w.cell? ⟨g, j, none⟩ = some u := by
  have := h.cells (g := g) rfl j u hj
  rw [← this]
  unfold Addr.add
  split
  · rename_i h0; subst h0; rfl
  · simp
theorem row_lt {w : World} {g j : Nat} {u : Value} (h : w.cell? ⟨g, j, none⟩ = some u) : g < w.heap.size := by
  rcases Nat.lt_or_ge g w.heap.size with hl | hl
  · exact hl
  · unfold World.cell? at h; rw [Array.getElem?_eq_none hl] at h; cases h
end Lx

end Go.Proofs.YtmpcekpdnikghaaGreatDoor
