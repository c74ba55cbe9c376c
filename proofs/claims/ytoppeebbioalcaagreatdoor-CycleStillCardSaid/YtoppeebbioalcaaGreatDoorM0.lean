/- The answer of one call, 0 (printed by a program). -/
import Derived.Test.YtoppeebbioalcaaGreatDoorT
import Derived.Test.YtoppeebbioalcaaGreatDoorB0
set_option maxRecDepth 100000
namespace Go.Proofs.YtoppeebbioalcaaGreatDoor.Run
open Go.Ev
open Go.Proofs
theorem e0 : evG gs (memo []) tabT.get 100000 60 m0.f m0.args m0.h = some (m0.r, m0.h') := by kernel_rfl
end Go.Proofs.YtoppeebbioalcaaGreatDoor.Run
