/- The walks of the small functions of the reference of chapter 13: the units, and seeds. -/
import Derived.Test.YtfcodadmfgpgcaaGreatDoorProg
import Derived.Test.YtfcodadmfgpgcaaGreatDoorUnSpec
import Derived.Test.YtfcodadmfgpgcaaGreatDoorDigitsP
import Derived.WalkKit
import Derived.WalkSpells
import Derived.WalkLawsBesides
import Derived.BigQuiet
import Derived.BigGuardPart
import Derived.Lib.Hide
namespace Go.Proofs.YtfcodadmfgpgcaaGreatDoor
open Go.RowKit

end Go.Proofs.YtfcodadmfgpgcaaGreatDoor
