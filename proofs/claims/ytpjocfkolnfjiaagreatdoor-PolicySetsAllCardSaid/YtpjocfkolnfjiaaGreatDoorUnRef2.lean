/- The walks of the references of units.Print at any number, Normal and Pair. -/
import Derived.Test.YtpjocfkolnfjiaaGreatDoorUnRefPrint
import Derived.Test.YtpjocfkolnfjiaaGreatDoorCut
import Derived.Test.YtpjocfkolnfjiaaGreatDoorCutLx
namespace Go.Proofs.YtpjocfkolnfjiaaGreatDoor
open Go.RowKit

end Go.Proofs.YtpjocfkolnfjiaaGreatDoor
