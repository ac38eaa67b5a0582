/- The walk of the reference of lex.Number, at a text that does not begin with a minus; and at every text. -/
import Derived.Test.YtfcodadmfgpgcaaDoorProg
import Derived.Test.YtfcodadmfgpgcaaDoorLx
import Derived.Test.YtfcodadmfgpgcaaDoorNum
import Derived.Test.YtfcodadmfgpgcaaDoorShelf
import Derived.Test.YtfcodadmfgpgcaaDoorEnv
import Derived.Test.YtfcodadmfgpgcaaDoorNumberM
import Derived.WalkKit
import Derived.WalkSpells
import Derived.WalkLawsBesides
import Derived.BigQuiet
import Derived.BigGuardPart
import Derived.Lib.Hide
import Derived.Lib.Strings
namespace Go.Proofs.YtfcodadmfgpgcaaDoor
open Go.RowKit

end Go.Proofs.YtfcodadmfgpgcaaDoor
