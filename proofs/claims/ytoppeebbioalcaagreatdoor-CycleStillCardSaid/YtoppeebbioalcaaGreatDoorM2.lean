/- The answer of one call, 2 (printed by a program). -/
import Derived.Test.YtoppeebbioalcaaGreatDoorT
import Derived.Test.YtoppeebbioalcaaGreatDoorB0
set_option maxRecDepth 100000
namespace Go.Proofs.YtoppeebbioalcaaGreatDoor.Run
open Go.Ev
open Go.Proofs
theorem e2 : evG gs (memo [m1, m0]) tabT.get 100000 60 m2.f m2.args m2.h = some (m2.r, m2.h') := by kernel_rfl
end Go.Proofs.YtoppeebbioalcaaGreatDoor.Run
