/- The answer of one call, 3 (printed by a program). -/
import Derived.Test.YtoppeebbioalcaaGreatDoorT
import Derived.Test.YtoppeebbioalcaaGreatDoorB0
set_option maxRecDepth 100000
namespace Go.Proofs.YtoppeebbioalcaaGreatDoor.Run
open Go.Ev
open Go.Proofs
theorem e3 : evG gs (memo [m2, m1, m0]) tabT.get 100000 60 m3.f m3.args m3.h = some (m3.r, m3.h') := by kernel_rfl
end Go.Proofs.YtoppeebbioalcaaGreatDoor.Run
