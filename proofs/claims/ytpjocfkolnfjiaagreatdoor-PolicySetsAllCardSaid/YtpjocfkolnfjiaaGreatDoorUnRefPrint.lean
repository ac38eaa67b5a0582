/- The walks of the references of units.Print, Normal and Pair. -/
import Derived.Test.YtpjocfkolnfjiaaGreatDoorUnPrint
import Derived.Test.YtpjocfkolnfjiaaGreatDoorUnRefRead
namespace Go.Proofs.YtpjocfkolnfjiaaGreatDoor
open Go.RowKit

end Go.Proofs.YtpjocfkolnfjiaaGreatDoor
