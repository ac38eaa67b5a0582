/- The walks of the small functions of the reference of chapter 13: the units, and seeds. -/
import Derived.Test.YtpjocfkolnfjiaaGreatDoorProg
import Derived.Test.YtpjocfkolnfjiaaGreatDoorUnSpec
import Derived.Test.YtpjocfkolnfjiaaGreatDoorDigitsP
import Derived.WalkKit
import Derived.WalkSpells
import Derived.WalkLawsBesides
import Derived.BigQuiet
import Derived.BigGuardPart
import Derived.Lib.Hide
namespace Go.Proofs.YtpjocfkolnfjiaaGreatDoor
open Go.RowKit

end Go.Proofs.YtpjocfkolnfjiaaGreatDoor
