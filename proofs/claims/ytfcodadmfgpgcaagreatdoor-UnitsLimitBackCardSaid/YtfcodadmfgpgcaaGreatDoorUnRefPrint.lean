/- The walks of the references of units.Print, Normal and Pair. -/
import Derived.Test.YtfcodadmfgpgcaaGreatDoorUnPrint
import Derived.Test.YtfcodadmfgpgcaaGreatDoorUnRefRead
namespace Go.Proofs.YtfcodadmfgpgcaaGreatDoor
open Go.RowKit

end Go.Proofs.YtfcodadmfgpgcaaGreatDoor
