/- The answer of one call, 7 (printed by a program). -/
import Derived.Test.YtoppeebbioalcaaGreatDoorT
import Derived.Test.YtoppeebbioalcaaGreatDoorB0
set_option maxRecDepth 100000
namespace Go.Proofs.YtoppeebbioalcaaGreatDoor.Run
open Go.Ev
open Go.Proofs
theorem e7 : evG gs (memo [m6, m5, m4, m3, m2, m1, m0]) tabT.get 100000 60 m7.f m7.args m7.h = some (m7.r, m7.h') := by kernel_rfl
end Go.Proofs.YtoppeebbioalcaaGreatDoor.Run
