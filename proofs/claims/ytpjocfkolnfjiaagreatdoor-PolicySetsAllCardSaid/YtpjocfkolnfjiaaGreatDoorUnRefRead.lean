/- The walk of the reference of units.read. -/
import Derived.Test.YtpjocfkolnfjiaaGreatDoorUnSmall
import Derived.Test.YtpjocfkolnfjiaaGreatDoorUnRef
import Derived.Deep.QuietTactic
import Derived.BigQuiet
namespace Go.Proofs.YtpjocfkolnfjiaaGreatDoor
open Go.RowKit

namespace Lx
theorem drop_cons (s : ByteArray) (k : Nat) (h : k < s.size) : s.data.toList.drop k = s[k] :: s.data.toList.drop (k + 1) := by
  have hk : k < s.data.toList.length := by rw [← Lib.size_eq]; exact h
  rw [List.drop_eq_getElem_cons hk]; rfl
theorem drop_end (s : ByteArray) (k : Nat) (h : s.size ≤ k) : s.data.toList.drop k = [] := List.drop_eq_nil_of_le (by rw [← Lib.size_eq]; exact h)
end Lx

end Go.Proofs.YtpjocfkolnfjiaaGreatDoor
