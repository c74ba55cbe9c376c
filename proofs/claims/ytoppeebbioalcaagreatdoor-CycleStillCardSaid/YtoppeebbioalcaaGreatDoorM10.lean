/- The answer of one call, 10 (printed by a program). -/
import Derived.Test.YtoppeebbioalcaaGreatDoorT
import Derived.Test.YtoppeebbioalcaaGreatDoorB0
set_option maxRecDepth 100000
namespace Go.Proofs.YtoppeebbioalcaaGreatDoor.Run
open Go.Ev
open Go.Proofs
theorem e10 : evG gs (memo [m9, m8, m7, m6, m5, m4, m3, m2, m1, m0]) tabT.get 100000 60 m10.f m10.args m10.h = some (m10.r, m10.h') := by kernel_rfl
end Go.Proofs.YtoppeebbioalcaaGreatDoor.Run
