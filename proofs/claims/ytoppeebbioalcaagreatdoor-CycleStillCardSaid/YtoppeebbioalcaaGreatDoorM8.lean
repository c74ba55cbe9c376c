/- The answer of one call, 8 (printed by a program). -/
import Derived.Test.YtoppeebbioalcaaGreatDoorT
import Derived.Test.YtoppeebbioalcaaGreatDoorB0
set_option maxRecDepth 100000
namespace Go.Proofs.YtoppeebbioalcaaGreatDoor.Run
open Go.Ev
open Go.Proofs
theorem e8 : evG gs (memo [m7, m6, m5, m4, m3, m2, m1, m0]) tabT.get 100000 60 m8.f m8.args m8.h = some (m8.r, m8.h') := by kernel_rfl
end Go.Proofs.YtoppeebbioalcaaGreatDoor.Run
