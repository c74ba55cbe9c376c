/- The answer of one call, 1 (printed by a program). -/
import Derived.Test.YtoppeebbioalcaaGreatDoorT
import Derived.Test.YtoppeebbioalcaaGreatDoorB0
set_option maxRecDepth 100000
namespace Go.Proofs.YtoppeebbioalcaaGreatDoor.Run
open Go.Ev
open Go.Proofs
theorem e1 : evG gs (memo [m0]) tabT.get 100000 60 m1.f m1.args m1.h = some (m1.r, m1.h') := by kernel_rfl
end Go.Proofs.YtoppeebbioalcaaGreatDoor.Run
