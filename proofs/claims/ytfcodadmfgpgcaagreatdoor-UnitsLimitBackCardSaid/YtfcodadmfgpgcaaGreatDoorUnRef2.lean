/- The walks of the references of units.Print at any number, Normal and Pair. -/
import Derived.Test.YtfcodadmfgpgcaaGreatDoorUnRefPrint
import Derived.Test.YtfcodadmfgpgcaaGreatDoorCut
import Derived.Test.YtfcodadmfgpgcaaGreatDoorCutLx
namespace Go.Proofs.YtfcodadmfgpgcaaGreatDoor
open Go.RowKit

end Go.Proofs.YtfcodadmfgpgcaaGreatDoor
