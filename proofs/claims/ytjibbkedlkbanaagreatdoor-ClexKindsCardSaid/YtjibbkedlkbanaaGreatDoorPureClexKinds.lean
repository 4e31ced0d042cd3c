/- For the row: nothing is asked beside the walk. -/
import Derived.Test.YtjibbkedlkbanaaGreatDoorSimK
namespace Go.Proofs.YtjibbkedlkbanaaGreatDoor.Pure
theorem ClexKinds : True := trivial
end Go.Proofs.YtjibbkedlkbanaaGreatDoor.Pure
