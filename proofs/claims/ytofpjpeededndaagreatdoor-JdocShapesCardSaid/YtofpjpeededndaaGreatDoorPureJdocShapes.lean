/- For the row: nothing is asked beside the walk. -/
import Derived.Test.YtofpjpeededndaaGreatDoorSimK
namespace Go.Proofs.YtofpjpeededndaaGreatDoor.Pure
theorem JdocShapes : True := trivial
end Go.Proofs.YtofpjpeededndaaGreatDoor.Pure
