/- The walk of the reference of units.Hex. -/
import Derived.Test.YtpjocfkolnfjiaaGreatDoorUnRef
import Derived.Test.YtpjocfkolnfjiaaGreatDoorConv
namespace Go.Proofs.YtpjocfkolnfjiaaGreatDoor
open Go.RowKit

theorem Lx.hexs_get (r : Nat) (h : r < (⟨#[48, 49, 50, 51, 52, 53, 54, 55, 56, 57, 97, 98, 99, 100, 101, 102]⟩ : ByteArray).size) : (⟨#[48, 49, 50, 51, 52, 53, 54, 55, 56, 57, 97, 98, 99, 100, 101, 102]⟩ : ByteArray)[r] = Lx.hexD r := by
  have h16 : r < 16 := h
  have key : ∀ r : Fin 16, (⟨#[48, 49, 50, 51, 52, 53, 54, 55, 56, 57, 97, 98, 99, 100, 101, 102]⟩ : ByteArray)[r.val]'r.isLt = Lx.hexD r.val := by decide
  exact key ⟨r, h16⟩

end Go.Proofs.YtpjocfkolnfjiaaGreatDoor
