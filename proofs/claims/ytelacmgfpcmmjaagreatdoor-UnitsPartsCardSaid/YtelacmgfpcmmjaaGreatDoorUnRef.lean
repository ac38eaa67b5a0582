/- The walks of the small functions of the reference of chapter 13: the units, and seeds. -/
import Derived.Test.YtelacmgfpcmmjaaGreatDoorProg
import Derived.Test.YtelacmgfpcmmjaaGreatDoorUnSpec
import Derived.Test.YtelacmgfpcmmjaaGreatDoorDigitsP
import Derived.WalkKit
import Derived.WalkSpells
import Derived.WalkLawsBesides
import Derived.BigQuiet
import Derived.BigGuardPart
import Derived.Lib.Hide
namespace Go.Proofs.YtelacmgfpcmmjaaGreatDoor
open Go.RowKit

end Go.Proofs.YtelacmgfpcmmjaaGreatDoor
