/- The walks of lex.Cut and of its reference: both cut at the first such byte. -/
import Derived.Test.YtmpcekpdnikghaaDoorProg
import Derived.Test.YtmpcekpdnikghaaDoorLx
import Derived.Test.YtmpcekpdnikghaaDoorShelf
import Derived.WalkKit
import Derived.WalkSpells
import Derived.WalkLawsBesides
import Derived.Deep.QuietTactic
import Derived.BigQuiet
import Derived.Lib.Hide
import Derived.Lib.Strings
namespace Go.Proofs.YtmpcekpdnikghaaDoor
open Go.RowKit

end Go.Proofs.YtmpcekpdnikghaaDoor
