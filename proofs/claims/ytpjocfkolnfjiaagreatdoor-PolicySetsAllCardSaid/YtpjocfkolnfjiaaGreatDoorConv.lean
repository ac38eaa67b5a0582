/- 'string([]byte{x})' of a byte just laid. -/
import Derived.Test.YtpjocfkolnfjiaaGreatDoorProg
import Derived.Test.YtpjocfkolnfjiaaGreatDoorDigitsP
import Derived.WalkKit
import Derived.WalkSpells
import Derived.WalkLawsBesides
import Derived.BigQuiet
import Derived.BigGuardPart
namespace Go.Proofs.YtpjocfkolnfjiaaGreatDoor
open Go.RowKit

/-- 'string([]byte{x})' of a byte just laid. -/
theorem conv_one (w : World) (x : Int) (c : UInt8) (hx : x = (c.toNat : Int)) :
    (convert 88 9 (.slice (some ⟨w.heap.size, 0, none⟩) 1 1)).run Tryz.prog (w.alloc (.cells #[.int .u8 x] 5)) = .ok (.string (Lx.one c)) (w.alloc (.cells #[.int .u8 x] 5)) := by
  have := run_convert_bytes_back (P := Tryz.prog) (w.alloc (.cells #[.int .u8 x] 5)) 88 9 5 ⟨w.heap.size, 0, none⟩ 1 [c] Tryz.underlying88 Tryz.underlying5 Tryz.underlying9 (by
    intro j hj
    have : j = 0 := by simpa using hj
    subst this
    simp [Addr.add, hx])
  exact this

end Go.Proofs.YtpjocfkolnfjiaaGreatDoor
