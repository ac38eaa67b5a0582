/- The walk of the reference of lex.Number, at a text that begins with a minus. -/
import Derived.Test.YtelacmgfpcmmjaaGreatDoorProg
import Derived.Test.YtelacmgfpcmmjaaGreatDoorLx
import Derived.Test.YtelacmgfpcmmjaaGreatDoorNum
import Derived.Test.YtelacmgfpcmmjaaGreatDoorShelf
import Derived.Test.YtelacmgfpcmmjaaGreatDoorEnv
import Derived.WalkKit
import Derived.WalkSpells
import Derived.WalkLawsBesides
import Derived.BigQuiet
import Derived.BigGuardPart
import Derived.Lib.Hide
import Derived.Lib.Strings
namespace Go.Proofs.YtelacmgfpcmmjaaGreatDoor
open Go.RowKit

end Go.Proofs.YtelacmgfpcmmjaaGreatDoor
