/- The answer of one call, 6 (printed by a program). -/
import Derived.Test.YtoppeebbioalcaaGreatDoorT
import Derived.Test.YtoppeebbioalcaaGreatDoorB0
set_option maxRecDepth 100000
namespace Go.Proofs.YtoppeebbioalcaaGreatDoor.Run
open Go.Ev
open Go.Proofs
theorem e6 : evG gs (memo [m5, m4, m3, m2, m1, m0]) tabT.get 100000 60 m6.f m6.args m6.h = some (m6.r, m6.h') := by kernel_rfl
end Go.Proofs.YtoppeebbioalcaaGreatDoor.Run
