/- The answer of one call, 5 (printed by a program). -/
import Derived.Test.YtoppeebbioalcaaGreatDoorT
import Derived.Test.YtoppeebbioalcaaGreatDoorB0
set_option maxRecDepth 100000
namespace Go.Proofs.YtoppeebbioalcaaGreatDoor.Run
open Go.Ev
open Go.Proofs
theorem e5 : evG gs (memo [m4, m3, m2, m1, m0]) tabT.get 100000 60 m5.f m5.args m5.h = some (m5.r, m5.h') := by kernel_rfl
end Go.Proofs.YtoppeebbioalcaaGreatDoor.Run
