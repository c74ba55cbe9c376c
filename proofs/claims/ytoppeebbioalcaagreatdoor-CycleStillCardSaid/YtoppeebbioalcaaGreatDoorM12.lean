/- The answer of one call, 12 (printed by a program). -/
import Derived.Test.YtoppeebbioalcaaGreatDoorT
import Derived.Test.YtoppeebbioalcaaGreatDoorB0
set_option maxRecDepth 100000
namespace Go.Proofs.YtoppeebbioalcaaGreatDoor.Run
open Go.Ev
open Go.Proofs
theorem e12 : evG gs (memo [m11, m10, m9, m8, m7, m6, m5, m4, m3, m2, m1, m0]) tabT.get 100000 60 m12.f m12.args m12.h = some (m12.r, m12.h') := by kernel_rfl
end Go.Proofs.YtoppeebbioalcaaGreatDoor.Run
