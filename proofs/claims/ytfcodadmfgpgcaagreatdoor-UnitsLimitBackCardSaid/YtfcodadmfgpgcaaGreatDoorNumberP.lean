/- The walk of the reference of lex.Number, at a text that does not begin with a minus; and at every text. -/
import Derived.Test.YtfcodadmfgpgcaaGreatDoorProg
import Derived.Test.YtfcodadmfgpgcaaGreatDoorLx
import Derived.Test.YtfcodadmfgpgcaaGreatDoorNum
import Derived.Test.YtfcodadmfgpgcaaGreatDoorShelf
import Derived.Test.YtfcodadmfgpgcaaGreatDoorEnv
import Derived.Test.YtfcodadmfgpgcaaGreatDoorNumberM
import Derived.WalkKit
import Derived.WalkSpells
import Derived.WalkLawsBesides
import Derived.BigQuiet
import Derived.BigGuardPart
import Derived.Lib.Hide
import Derived.Lib.Strings
namespace Go.Proofs.YtfcodadmfgpgcaaGreatDoor
open Go.RowKit

end Go.Proofs.YtfcodadmfgpgcaaGreatDoor
