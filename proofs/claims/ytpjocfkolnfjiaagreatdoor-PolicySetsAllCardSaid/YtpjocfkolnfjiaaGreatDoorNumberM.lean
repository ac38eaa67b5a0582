/- The walk of the reference of lex.Number, at a text that begins with a minus. -/
import Derived.Test.YtpjocfkolnfjiaaGreatDoorProg
import Derived.Test.YtpjocfkolnfjiaaGreatDoorLx
import Derived.Test.YtpjocfkolnfjiaaGreatDoorNum
import Derived.Test.YtpjocfkolnfjiaaGreatDoorShelf
import Derived.Test.YtpjocfkolnfjiaaGreatDoorEnv
import Derived.WalkKit
import Derived.WalkSpells
import Derived.WalkLawsBesides
import Derived.BigQuiet
import Derived.BigGuardPart
import Derived.Lib.Hide
import Derived.Lib.Strings
namespace Go.Proofs.YtpjocfkolnfjiaaGreatDoor
open Go.RowKit

end Go.Proofs.YtpjocfkolnfjiaaGreatDoor
